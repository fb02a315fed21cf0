/- DfwPu, DfwPv, DfwPz, DfwPy, DfwKy, DfwDl, DfwAb, DfwAd, DfwAe, DfwIn, DfwIo, DfwIs, DfwSo, DfwRw -/
import Derived.Test.YtcndmfkgdaipaaaGreatFwF
import Derived.Lib.SlKeysI
import Derived.KernelRfl
import Derived.Test.YtcndmfkgdaipaaaGreatFwC
import Derived.Shelf.Spec.SlicesInsertGrow
import Derived.Test.YtcndmfkgdaipaaaGreatFwA
import Derived.Test.YtcndmfkgdaipaaaGreatFwD
import Derived.Lib.SlicesCompact
set_option linter.all false
open Go.IntKind (i64 u64)
section
namespace Go.Abs
noncomputable section
variable[Gl][Y:Ty]
def cW(P:Program)(g:FuncId)(s:dr):Prop:=aV P g=true/\∀(x:dJ s.AZ.items)(y:qB s.QY)(e:List TV)(σ:TH)(d:CT)(z:dJ d.items)(h:List TV)(j:TH),
 s.f x=some y->mY s.AZ [] x=some (e,σ)->tX s.QY y=some ⟨d,z⟩->mY d σ z=some (h,j)->Ok P g (e.map eD) (σ.map TB.er) (one (h.map eD)) (j.map TB.er)
theorem D.Dy(ρ:Nat->Nat){d:D}(h:d.low 0=true):d.ed ρ=d:=by
 have j:∀(k:Nat)(d:D),SizeOf.sizeOf d<k->d.low 0=true->d.ed ρ=d:=by
  intro k;induction k with
  |zero=>omega
  |succ k ih=>
   have cV:∀(ds:List D),SizeOf.sizeOf ds<k+1->D.low.cV 0 ds=true->D.ed.xk ρ ds=ds:=by
    intro ds;induction ds with
    |nil=>intro _ _;rfl
    |cons x ds u=>
     intro hs h;simp only[D.low.cV,bN,List.cons.sizeOf_spec] at h hs
     grind [D.ed.xk]
   intro d hs h;cases d with
   |c x=>rfl
   |any=>rfl
   |ptr b o s=>grind [D.low]
   |sl b o l e s=>grind [D.low]
   |mp b=>grind [D.low]
   |fn f a b=>
    simp only[D.low,bN,D.fn.sizeOf_spec] at h hs
    grind [D.ed]
   |agg ds=>grind [D.low,D.ed]
   |aS ds=>grind [D.low,D.ed]
 exact j (SizeOf.sizeOf d+1) d (Nat.lt_succ_self _) h
theorem Qp(ρ:Nat->Nat)(l:List C):(l.map D.c).map (D.ed ρ)=l.map D.c:=by rw[Wd];rfl
theorem Ox(ρ:Nat->Nat)(c:CC)(a:c.dn):(rT c a).er.ed ρ=(rT c a).er:=by rw[lO];rfl
theorem exp_ren(ρ:Nat->Nat)(i:Nat)(a:TT i):((exp i a).map TC.er).map (D.ed ρ)=(exp i a).map TC.er:=by rw[vF,Wd];rfl
def DO(ρ:Nat->Nat)(x y:TB):Prop:=(∃w e g d,x=.cells w e/\y=.cells g d/\aJ (λ(a b:Nat×TC)=>b.2.er=a.2.er.ed ρ) e d)∨uW x y
structure iW (ρ:Nat->Nat) (n:Nat) (σ0 σ:TH):Prop where
 len:σ0.length=n
 bs:∀i,i<n->∃x y,σ0[i]? = some x/\σ[ρ i]? = some y/\DO ρ x y
variable{ρ:Nat->Nat}{n m0:Nat}{σ0 σ:TH}
theorem iW.set(h:iW ρ n σ0 σ)(inj:∀i j,i<n->j<n->ρ i=ρ j->i=j){b:Nat}(E:b<n){x y:TB}(s:DO ρ x y):iW ρ n (σ0.set b x) (σ.set (ρ b) y):={
 len:=by rw[Wu];exact h.len
 bs:=λi o=>by
  by_cases e:i=b
  ·subst e;obtain ⟨u,A,h1,h2,_⟩:=h.bs i o
   grind
  ·obtain ⟨u,A,h1,h2,G⟩:=h.bs i o
   grind }
theorem iW.row(h:iW ρ n σ0 σ){b i:Nat}(u:b<n){l:List (TT i)}{A E:Nat}(G:σ[ρ b]? = some (.row i l A E)):∃j o,σ0[b]? = some (.row i l j o):=by
 obtain ⟨x,y,Z,s,K⟩:=h.bs b u;rw[G] at s;simp only[au] at s;subst s;rcases K with ⟨_,_,_,_,_,e,_⟩ | ⟨i',l',O,R,U,X,e1,e2⟩ | ⟨_,_,_,_,_,_,e⟩
 ·simp at e
 ·grind
 simp_all
theorem iW.mp(h:iW ρ n σ0 σ){b j:Nat}{st:Bool}(s:b<n){l:List (Int×TT j)}{v:Nat}(u:σ[ρ b]? = some (.mp j st l v)):∃A,σ0[b]? = some (.mp j st l A):=by
 obtain ⟨x,y,K,o,E⟩:=h.bs b s;rw[u] at o;simp only[au] at o;subst o;rcases E with ⟨_,_,_,_,_,e,_⟩ | ⟨_,_,_,_,_,_,_,e⟩ | ⟨O,G,R,U,X,Z,e2⟩
 ·simp at e
 ·simp at e
 grind
theorem iW.cells(h:iW ρ n σ0 σ){b:Nat}(u:b<n){w:Nat}{cs:List (Nat×TC)}(A:σ[ρ b]? = some (.cells w cs)):∃s j,σ0[b]? = some (.cells s j)/\aJ (λ(a b:Nat×TC)=>b.2.er=a.2.er.ed ρ) j cs:=by
 obtain ⟨x,y,K,o,E⟩:=h.bs b u;rw[A] at o;simp only[au] at o;subst o;rcases E with ⟨s,j,O,G,R,U,X⟩ | ⟨_,_,_,_,_,_,_,e⟩ | ⟨_,_,_,_,_,_,e⟩
 ·grind
 ·simp at e
 simp_all
theorem KP{p q:CP}{ds r:List kJ}{y:TC}(j:rCP ρ n p q=true)(h:iW ρ n σ0 σ)(g:wY σ q ds=some (y,r)):∃v,wY σ0 p ds=some (v,r)/\y.er=v.er.ed ρ:=by
 unfold rCP at j;split at j
 ·rename_i a b;have:=of_decide_eq_true j;subst this;cases ds with
  |nil=>grind [wY]
  |cons d ds=>
   simp only[wY] at g ⊢
   grind [Ox]
 ·cases ds with
  |nil=>grind [wY]
  |cons d ds=>
   simp only[wY] at g ⊢;split at g
   ·rename_i L N;simp only[au,aX] at g;obtain ⟨rfl,rfl⟩:=g;exact ⟨_,rfl,rfl⟩
   simp_all
 ·rename_i b u;simp only[bN] at j;have e:=cY j.1;have k:=ug.mp j.2;subst e;simp only[wY] at g ⊢;split at g
  ·rename_i i l O R hs;simp only[au,aX] at g;obtain ⟨rfl,rfl⟩:=g;obtain ⟨x,A,E⟩:=h.row k hs;rw[E];exact ⟨_,rfl,rfl⟩
  simp_all
 ·rename_i b o s u S G;simp only[bN] at j;obtain ⟨e,k,m,t⟩:=j;have e:=cY e;have k:=ug.mp k;have m:=cY m;have t:=cY t;subst e m t;simp only[wY] at g ⊢;split at g
  ·simp only[au,aX] at g;obtain ⟨rfl,rfl⟩:=g;rw[h.len,ug.mpr k];exact ⟨_,rfl,rfl⟩
  simp_all
 ·rename_i b u;simp only[bN] at j;have e:=cY j.1;have k:=ug.mp j.2;subst e;simp only[wY] at g ⊢;split at g
  ·simp only[au,aX] at g;obtain ⟨rfl,rfl⟩:=g;rw[h.len,ug.mpr k];exact ⟨_,rfl,rfl⟩
  simp_all
 ·rename_i f b s T u G;simp only[bN] at j;obtain ⟨e,k,m,t⟩:=j;have e:=cY e;have k:=ug.mp k;have m:=cY m;have t:=cY t;subst e m t;simp only[wY] at g ⊢;split at g
  ·simp only[au,aX] at g;obtain ⟨rfl,rfl⟩:=g;rw[h.len,ug.mpr k];exact ⟨_,rfl,rfl⟩
  simp_all
 ·rename_i d U;have:=WO j;subst this;simp only[wY] at g ⊢;split at g
  ·rename_i K;simp only[au,aX] at g;obtain ⟨rfl,rfl⟩:=g;exact ⟨_,rfl,(D.Dy ρ K).symm⟩
  simp_all
 simp_all
theorem NW:∀{ps g:List CP}{ds r:List kJ}{j:List TC},Qq ρ n ps g=true->iW ρ n σ0 σ->AM σ g ds=some (j,r)->∃d,AM σ0 ps ds=some (d,r)/\aJ (λ(y m:TC)=>y.er=m.er.ed ρ) j d:=by
 intro ps;induction ps with
 |nil=>
  intro g ds r j k h e;cases g with
  |nil=>simp only[AM,au,aX] at e;obtain ⟨rfl,rfl⟩:=e;exact ⟨[],rfl,.nil⟩
  |cons _ _=>grind [Qq]
 |cons p ps ih=>
  intro g ds r j k h e;cases g with
  |nil=>grind [Qq]
  |cons q g=>
   simp only[Qq,bN] at k;simp only[AM] at e;split at e
   ·rename_i x v o;split at e
    ·rename_i A E s;simp only[au,aX] at e;obtain ⟨rfl,rfl⟩:=e;obtain ⟨m,G,t⟩:=KP k.1 h o;obtain ⟨d,K,u⟩:=ih k.2 h s;exact ⟨m::d,by grind [AM],.cons t u⟩
    simp_all
   simp_all
theorem eqVC_eq{a b:dm}(h:eqVC a b=true):a=b:=by
 unfold eqVC at h;split at h
 ·simp_all
 ·simp_all
 ·simp_all
 ·simp_all
 simp_all
theorem aJ.Qz{o j:List TC}(h:aJ (λ(y s:TC)=>y.er=s.er.ed ρ) o j):o.map TC.er=D.ed.xk ρ (j.map TC.er):=by
 induction h with
 |nil=>rfl
 |cons h _ ih=>grind [D.ed.xk]
theorem pRO_sim{p q:RO}{ds r:List kJ}{v:TV}(j:rRO ρ n p q=true)(h:iW ρ n σ0 σ)(e:zu σ q ds=some (v,r)):∃t,zu σ0 p ds=some (t,r)/\eD v=(eD t).ed ρ:=by
 unfold rRO at j;split at j
 ·rename_i a b;have:=eqVC_eq j;subst this;cases ds with
  |nil=>grind [zu]
  |cons d ds=>
   cases a with
   |c c=>
    simp only[zu] at e ⊢;split at e
    ·simp only[au,aX] at e;obtain ⟨rfl,rfl⟩:=e;exact ⟨_,rfl,(Ox ρ _ _).symm⟩
    simp_all
   |st i=>
    simp only[zu] at e ⊢;split at e
    ·simp only[au,aX] at e;obtain ⟨rfl,rfl⟩:=e;refine ⟨_,rfl,?_⟩
     grind [eD,D.ed,Fg,exp_ren]
    simp_all
   |fp i=>
    simp only[zu] at e ⊢;split at e
    ·simp only[au,aX] at e;obtain ⟨rfl,rfl⟩:=e;exact ⟨_,rfl,rfl⟩
    simp_all
   |k g=>grind [zu]
 ·rename_i a b;simp only[zu] at e;split at e
  ·rename_i x u m;simp only[au,aX] at e;obtain ⟨rfl,rfl⟩:=e;obtain ⟨o,y,s⟩:=KP j h m;exact ⟨.c o,by grind [zu],s⟩
  simp_all
 ·rename_i a b;simp only[zu] at e;split at e
  ·rename_i A u m;simp only[au,aX] at e;obtain ⟨rfl,rfl⟩:=e;obtain ⟨o,y,s⟩:=NW j h m;refine ⟨.agg o,by grind [zu],?_⟩;simp only[eD,D.ed,s.Qz]
  simp_all
 simp_all
theorem Ya:∀{ps e:List RO}{ds r:List kJ}{vs:List TV},Um ρ n ps e=true->iW ρ n σ0 σ->kZ σ e ds=some (vs,r)->∃g,kZ σ0 ps ds=some (g,r)/\aJ (λ(v m:TV)=>eD v=(eD m).ed ρ) vs g:=by
 intro ps;induction ps with
 |nil=>
  intro e ds r o j h d;cases e with
  |nil=>simp only[kZ,au,aX] at d;obtain ⟨rfl,rfl⟩:=d;exact ⟨[],rfl,.nil⟩
  |cons _ _=>grind [Um]
 |cons p ps ih=>
  intro e ds r o j h d;cases e with
  |nil=>grind [Um]
  |cons q e=>
   simp only[Um,bN] at j;simp only[kZ] at d;split at d
   ·rename_i x E s;split at d
    ·rename_i G K t;simp only[au,aX] at d;obtain ⟨rfl,rfl⟩:=d;obtain ⟨u,L,y⟩:=pRO_sim j.1 h s;obtain ⟨k,N,A⟩:=ih j.2 h t;exact ⟨u::k,by grind [kZ],.cons y A⟩
    simp_all
   simp_all
theorem Vd(inj:∀i j,i<m0->j<m0->ρ i=ρ j->i=j):∀{ps s:List PC}{σ0 σ x:TH}{ds r:List kJ},BJ ρ m0 n ps s=true->iW ρ m0 σ0 σ->cd σ s ds=some (x,r)->∃g,cd σ0 ps ds=some (g,r)/\iW ρ m0 g x:=by
 intro ps;induction ps with
 |nil=>
  intro s σ0 σ x ds r y h m;cases s with
  |nil=>simp only[cd,au,aX] at m;obtain ⟨rfl,rfl⟩:=m;exact ⟨σ0,rfl,h⟩
  |cons _ _=>grind [BJ]
 |cons p ps ih=>
  intro s σ0 σ x ds r y h m;cases s with
  |nil=>grind [BJ]
  |cons q s=>
   simp only[BJ,bN] at y;obtain ⟨k,u⟩:=y;unfold rPC at k;split at k
   ·grind [cd]
   ·rename_i b i K i';simp only[bN] at k;obtain ⟨e,o,t⟩:=k;have e:=cY e;have o:=ug.mp o;have t:=cY t;subst e t;cases ds with
    |nil=>grind [cd]
    |cons d ds=>
     simp only[cd] at m;split at m
     ·rename_i l j L N O R A;split at m
      ·rename_i S;have:=cY S;subst this;obtain ⟨E,G,T⟩:=h.row o A;obtain ⟨g,U,X⟩:=ih u (h.set inj o (.inr (.inl ⟨j,l,E+1,G+1,N+1,O+1,rfl,rfl⟩))) m
       grind [cd]
      simp_all
     simp_all
   ·rename_i b j st K j' Z;simp only[bN,nB] at k;obtain ⟨e,o,t,e3⟩:=k;have e:=cY e;have o:=ug.mp o;have t:=cY t;subst e t e3;cases ds with
    |nil=>grind [cd]
    |cons d ds=>
     simp only[cd] at m;split at m
     ·rename_i l j0 aa L v R A;obtain ⟨v0,T⟩:=h.mp o A;obtain ⟨g,U,X⟩:=ih u (h.set inj o (.inr (.inr ⟨j,st,l,v0+1,v+1,rfl,rfl⟩))) m
      grind [cd]
     simp_all
   simp_all
theorem Yn:∀{ps g:List NB}{ds r:List kJ}{l:TH},AE ρ n ps g=true->dA g ds=some (l,r)->dA ps ds=some (l,r):=by
 intro ps;induction ps with
 |nil=>grind [AE]
 |cons p ps ih=>
  intro g ds r l h k;cases g with
  |nil=>grind [AE]
  |cons q g=>
   simp only[AE,bN] at h;obtain ⟨e,j⟩:=h;unfold rNB at e;split at e
   ·grind [dA]
   ·have:=cY e;subst this;cases ds with
    |nil=>grind [dA]
    |cons d ds=>grind [dA]
   ·simp only[bN,nB] at e;have:=cY e.1;subst this;have:=e.2;subst this;cases ds with
    |nil=>grind [dA]
    |cons d ds=>grind [dA]
   simp_all
theorem aJ.set{α o:Type}{R:α->o->Prop}{l:List α}{m:List o}(h:aJ R l m){a:α}{b:o}(s:R a b):∀j:Nat,aJ R (l.set j a) (m.set j b):=by
 induction h with
 |nil=>intro j;exact .nil
 |cons h r ih=>
  intro j;cases j with
  |zero=>exact .cons s r
  |succ j=>exact .cons h (ih j)
theorem ZF(inj:∀i j,i<m0->j<m0->ρ i=ρ j->i=j){k s:TH}(hs:iW ρ n k s):∀{ps m:List PC}{σ0 σ t:TH}{ds r:List kJ},BJ ρ m0 n ps m=true->iW ρ m0 σ0 σ->dV s m σ ds=some (t,r)->∃d,dV k ps σ0 ds=some (d,r)/\iW ρ m0 d t:=by
 intro ps;induction ps with
 |nil=>
  intro m σ0 σ t ds r v h o;cases m with
  |nil=>simp only[dV,au,aX] at o;obtain ⟨rfl,rfl⟩:=o;exact ⟨σ0,rfl,h⟩
  |cons _ _=>grind [BJ]
 |cons p ps ih=>
  intro m σ0 σ t ds r v h o;cases m with
  |nil=>grind [BJ]
  |cons q m=>
   simp only[BJ,bN] at v;obtain ⟨g,y⟩:=v;unfold rPC at g;split at g
   ·rename_i b j p T U X;simp only[bN] at g;obtain ⟨e,u,A,G⟩:=g;have e:=cY e;have u:=ug.mp u;have A:=cY A;subst e A;simp only[dV] at o;split at o
    ·rename_i x Z w cs K L;obtain ⟨N,a1,O⟩:=KP G hs K;obtain ⟨E,R,h3,S⟩:=h.cells u L;obtain ⟨d,b1,b2⟩:=ih y (h.set inj u (.inl ⟨E+1,_,w+1,_,rfl,rfl,S.set (a:=(E+1,N)) (b:=(w+1,x)) O j⟩)) o
     grind [dV]
    simp_all
   ·grind [dV]
   ·grind [dV]
   simp_all
theorem XG{e v:TH}(hs:iW ρ n e v):∀{ps j:List NB}{g l:TH}{ds:List kJ},AE ρ n ps j=true->(∀b∈g,DO ρ b b)->dO v j g ds=some l->∃s,dO e ps g ds=some s/\aJ (DO ρ) s l:=by
 intro ps;induction ps with
 |nil=>
  intro j g l ds A y d;cases j with
  |nil=>simp only[dO,au] at d;subst d;exact ⟨[],rfl,.nil⟩
  |cons _ _=>grind [AE]
 |cons p ps ih=>
  intro j g l ds A y d;cases j with
  |nil=>grind [AE]
  |cons q j=>
   simp only[AE,bN] at A;obtain ⟨k,m⟩:=A;cases g with
   |nil=>grind [dO]
   |cons b g=>
    have o:∀b∈g,DO ρ b b:=λx N=>y x (lI _ N);unfold rNB at k;split at k
    ·rename_i O R;simp only[dO] at d;split at d
     ·rename_i U r K;split at d
      ·rename_i L t;simp only[au] at d;subst d;obtain ⟨E,S,T⟩:=NW k hs K;obtain ⟨s,G,u⟩:=ih m o t;refine ⟨.cells 0 (E.map λx=>(0,x))::s,by grind [dO],.cons (.inl ⟨0,_,0,_,rfl,rfl,?_⟩) u⟩;clear G u S K t ih;induction T with
       |nil=>exact .nil
       |cons h _ ih=>exact .cons h ih
      simp_all
     simp_all
    ·simp only[dO] at d;split at d
     ·rename_i L t;simp only[au] at d;subst d;obtain ⟨s,G,u⟩:=ih m o t;exact ⟨_,by grind [dO],.cons (y b (ql ..)) u⟩
     simp_all
    ·simp only[dO] at d;split at d
     ·rename_i L t;simp only[au] at d;subst d;obtain ⟨s,G,u⟩:=ih m o t;exact ⟨_,by grind [dO],.cons (y b (ql ..)) u⟩
     simp_all
    simp_all
theorem DO.new{o:List NB}{ds r:List kJ}{l:TH}(h:dA o ds=some (l,r)):∀b∈l,DO ρ b b:=by
 intro b x;obtain ⟨k,hk⟩:=yB8 x;cases b with
 |cells w A=>have:=(yZ h k).1 w A hk;subst this;exact .inl ⟨w,[],w,[],rfl,rfl,.nil⟩
 |row i l s u=>exact .inr (.inl ⟨i,l,s,u,s,u,rfl,rfl⟩)
 |mp j st l v=>exact .inr (.inr ⟨j,st,l,v,v,rfl,rfl⟩)
theorem iW.app(h:iW ρ m0 σ0 σ){j l:TH}(s:aJ (DO ρ) j l)(u:∀k,ρ (m0+k)=σ.length+k)(lt:∀i,i<m0->ρ i<σ.length):iW ρ (m0+j.length) (σ0++j) (σ++l):={
 len:=by rw[AH,h.len]
 bs:=λi A=>by
  rcases sO i m0 with o | o
  ·obtain ⟨x,y,a,b,c⟩:=h.bs i o
   grind
  ·obtain ⟨k,rfl⟩:=yBB o;have hk:k<j.length:=by omega
   obtain ⟨y,a,b⟩:=s.get k _ (eS hk)
   grind [iW.len] }
theorem aJ.refl'{α:Type}{R:α->α->Prop}{l:List α}(h:∀b∈l,R b b):aJ R l l:=by
 induction l with
 |nil=>exact .nil
 |cons a l ih=>exact .cons (h a (ql ..)) (ih λb j=>h b (lI _ j))
theorem ZI{d ct:CT}{F:TH}{u:List TV}{ds:List kJ}{x:dJ d.items}(inj:∀i j,i<m0->j<m0->ρ i=ρ j->i=j)(y:rCT ρ m0 d ct=true)(hs:iW ρ m0 σ0 σ)(K:∀k,ρ (m0+k)=σ.length+k)(lt:∀i,i<m0->ρ i<σ.length)
  {σD:ar} (H:RH σ σD) (L:Laid ct σ ds u F) (hd:dR d.items x=ds) :
  ∃e F0,mY d σ0 x=some (e,F0)/\aJ (λ(v N:TV)=>eD v=(eD N).ed ρ) u e/\iW ρ (m0+d.nb.length) F0 F:=by
 simp only[rCT,bN] at y;obtain ⟨q,g,h⟩:=y;have A:=iO L.h1 H;have C:=lA L.h4;obtain ⟨m,X,E⟩:=Vd inj g hs L.h1;have r:=Yn h L.h2;have o:L.nb.length=d.nb.length:=Ev r;have s:iW ρ (m0+d.nb.length) (m++L.nb) (L.iP++L.nb):=by rw[<-o];exact E.app (aJ.refl' (DO.new r)) (by grind [yQ.len]) (by grind [yQ.len])
 obtain ⟨e,c1,O⟩:=Ya q s L.h3;obtain ⟨p,Z,R⟩:=ZF inj s g E L.h4;obtain ⟨G,S,T⟩:=XG s h (DO.new r) L.h5;have t:G.length=d.nb.length:=(zG S).1;refine ⟨e,p++G,?_,O,?_⟩
 ·grind [mY]
 ·have U:F=L.aA++L.l:=L.e;rw[U,<-t];exact R.app T (by rw[C.len,A.len];exact K) (by rw[C.len,A.len];exact lt)
end
end Go.Abs
end
section
namespace Go.Abs
noncomputable section
variable[Gl][Y:Ty]
theorem relocH{P:Program}{g:FuncId}{ds L:List D}{H p:ar}{r:D}(ok:Ok P g L H r p)(af:H.length<=p.length)
  (aa:p.all (Ob.low p.length)=true) (hr:r.low p.length=true)
  {σ σ':ar} {ρ ρ0:Nat->Nat} (ag:∀i,i<H.length->ρ0 i=ρ i) (N:RN 0 σ H ρ0 (λ_=>False)) (hd:aJ (du σ H ρ0 (λ_=>False)) ds L)
  (inj:∀i j,i<p.length->j<p.length->ρ i=ρ j->i=j) (hi:∀i,H.length<=i->i<p.length->σ.length<=ρ i)
  (s2:∀i,i<p.length->σ'[ρ i]? = (p[i]?).map (Ob.ed ρ)) (s3:∀j,(∀i,i<p.length->ρ i≠j)->σ'[j]? = σ[j]?) :
  Ok P g ds σ (r.ed ρ) σ':=by
 intro M Fz w vs R hs hv
 let G:Nat->Option Nat:=mN H.length ρ0 M
 have eF:∀Fz:Nat->Prop,fzN (λ_=>False) M Fz=Fz:=λFz=>by
  funext c;refine propext ⟨λh=>?_,.inl⟩;rcases h with h | ⟨b,h,_⟩
  ·exact h
  simp_all
 have ak:∀i,i<H.length->G i=M (ρ i):=λi h=>by simp only[G,mN,h,if_true,ag i h]
 have y:∀i c,G i=some c->i<H.length/\M (ρ i)=some c:=λi c h=>by grind [mN]
 have R0:Rel H G Fz w:=by
  have:=N.rel R
  grind
 refine (ok G Fz w vs R0 (by rw[hs,hd.len]) (λi d v a b=>by
  obtain ⟨d1,O,h2⟩:=hd.get' i d a;have:=h2 M Fz w v R (hv i d1 v O b)
  grind)).mono λe w' he=>?_
 obtain ⟨v,M1,S,rfl,T,an,u⟩:=he;have av:∀i c,M1 i=some c->i<p.length:=λi c h=>by
  obtain ⟨_,ob,o,h2,_⟩:=T.blk i c h
  grind
 let m:Nat->Option Nat:=λj=>(List.range p.length).find? λi=>ρ i == j
 have s:∀i,i<p.length->m (ρ i)=some i:=λi h=>by
  cases e:m (ρ i) with
  |none=>grind
  |some k=>grind
 have q:∀j i,m j=some i->i<p.length/\ρ i=j:=λj i e=>⟨yBP.1 (yB3 e),by grind⟩;have t:∀j,m j=none->∀i,i<p.length->ρ i≠j:=λj e i h=>by grind
 let U:Nat->Option Nat:=λj=>match m j with | some i=>M1 i | none=>M j
 have m1:∀j i,m j=some i->U j=M1 i:=λj i h=>by grind
 have m2:∀j,m j=none->U j=M j:=λj h=>by grind
 have ab:∀i,i<p.length->U (ρ i)=M1 i:=λi h=>m1 _ _ (s i h);have apart:∀j c b,m j=none->M j=some c->G b≠some c:=λj c b O h2 A=>by obtain ⟨hb,A⟩:=y b c A;exact t j O b (by omega) (R.inj _ _ _ A h2)
 have lt:∀j c,M j=some c->c<w.heap.size:=λj c h=>by
  obtain ⟨_,_,o,_,A,_⟩:=R.blk j c h
  grind
 have ad:bH σ M Fz w σ' U S w':={
  size:=u.size
  frame:=λc hc hn=>u.frame c hc λb hb=>hn (ρ b) (y b c hb).2
  ld:=λj c h=>by
   cases e:m j with
   |some i=>
    rw[m1 j i e] at h;rcases u.ld i c h with ⟨b0,x⟩ | x
    ·grind
    omega
   |none=>grind
  fz:=u.fz
  ow:=λc h=>by
   rcases u.ow c h with x | ⟨b,x⟩ | x
   ·grind
   ·grind
   omega
  qo:=u.qo
  keep:=λj ob h=>by
   cases e:m j with
   |some i=>
    obtain ⟨O,h2⟩:=q j i e;have hj:j<σ.length:=(gC.1 h).1;have X:i<H.length:=by grind
    obtain ⟨q1,q2,q3,q4,q5⟩:=N.sz i X;rw[ag i X,h2,h] at q3;simp only[au] at q3;subst q3;obtain ⟨ax,h4,h5,h6⟩:=u.keep i q2 q4
    grind [Ob.rW]
   |none=>grind
  out:=u.out }
 have R2:Rel σ' U S w':={
  blk:=λj c h=>by
   cases e:m j with
   |some i=>rw[m1 j i e] at h;obtain ⟨O,h2⟩:=q j i e;obtain ⟨A,ob,o,h4,h5,h6⟩:=T.blk i c h;exact ⟨A,ob.ed ρ,o,by grind,h5,bY.Ms ab s2 (iR.1 aa _ (Bb h4)) h6⟩
   |none=>
    rw[m2 j e] at h;obtain ⟨A,ob,o,h4,h5,h6⟩:=R.blk j c h;refine ⟨λhf=>?_,ob,o,by grind,by rw[u.frame c (lt j c h) λb=>apart j c b e h];exact h5,h6.mono ad⟩;rcases u.ow c hf with x | ⟨b,x⟩ | x
    ·grind
    ·grind
    grind
  inj:=λj K c h E=>by
   cases e:m j with
   |some i=>
    rw[m1 j i e] at h;cases Z:m K with
    |some i'=>
     rw[m1 K i' Z] at E;have:=T.inj i i' c h E
     grind
    |none=>
     rw[m2 K Z] at E;rcases u.ld i c h with ⟨b0,x⟩ | x
     ·grind
     grind
   |none=>
    rw[m2 j e] at h;cases Z:m K with
    |some i'=>
     rw[m1 K i' Z] at E;rcases u.ld i' c E with ⟨b0,x⟩ | x
     ·grind
     grind
    |none=>rw[m2 K Z] at E;exact R.inj _ _ _ h E
  fz:=T.fz
  gl:=T.gl }
 grind [V.Ms]
theorem castO{α d:Type}(e:α=d){o:Option α}{y:d}(h:cast (Dr Option e) o=some y):∃g,o=some g/\HEq g y:=by grind
theorem Hv{i j:List It}(e:i=j){x:dJ i}{y:dJ j}(h:HEq x y):dR i x=dR j y:=by grind
theorem sum_heq{A B d g:Type}(e:A=d)(e':B=g){x:A ⊕ B}{y:d ⊕ g}(h:HEq x y):(∃a j,x=.inl a/\y=.inl j/\HEq a j)∨(∃b b',x=.inr b/\y=.inr b'/\HEq b b'):=by grind
theorem Zd:∀{a b:List CT},a.map CT.items=b.map CT.items->∀{j:qB a}{y:qB b}{ct:CT}{x:dJ ct.items},HEq j y->tX b y=some ⟨ct,x⟩ ->
  ∃(i:Nat)(g:CT)(k:dJ g.items),tX a j=some ⟨g,k⟩/\a[i]? = some g/\b[i]? = some ct/\dR g.items k=dR ct.items x:=by
 intro a;induction a with
 |nil=>grind
 |cons c a ih=>
  intro b e j y ct x m hs;cases b with
  |nil=>simp at e
  |cons d b=>
   simp only[ru,yBT] at e;cases a with
   |nil=>
    cases b with
    |cons _ _=>simp at e
    |nil=>simp only[tX,au,yB2] at hs;obtain ⟨rfl,hs⟩:=hs;cases hs;exact ⟨0,c,j,rfl,rfl,rfl,Hv e.1 m⟩
   |cons s a=>
    cases b with
    |nil=>simp at e
    |cons t b=>
     rcases sum_heq (by rw[e.1]) (Jk e.2) m with ⟨u,v,rfl,rfl,h⟩ | ⟨u,v,rfl,rfl,h⟩
     ·simp only[tX,au,yB2] at hs;obtain ⟨rfl,hs⟩:=hs;cases hs;exact ⟨0,c,u,rfl,rfl,rfl,Hv e.1 h⟩
     ·obtain ⟨i,g,k,o,p,q,r⟩:=ih e.2 h hs;exact ⟨i+1,g,k,o,p,q,r⟩
theorem aai{ρ:Nat->Nat}{m0:Nat}:∀{a b:List CT},rCTs ρ m0 a b=true->∀(i:Nat) c d,a[i]? = some c->b[i]? = some d->rCT ρ m0 c d=true:=by
 intro a;induction a with
 |nil=>simp_all
 |cons x a ih=>
  intro b h i c d e g;cases b with
  |nil=>grind
  |cons y b=>
   simp only[rCTs,bN] at h
   grind
theorem WT{ρ:Nat->Nat}{m0 n:Nat}:∀{ps e:List PC},BJ ρ m0 n ps e=true->∀q∈e,∃b,b<m0/\q.blk=ρ b:=by
 intro ps;induction ps with
 |nil=>grind [BJ]
 |cons p ps ih=>
  intro e h q g;cases e with
  |nil=>grind
  |cons j e=>
   simp only[BJ,bN] at h;rcases gq.1 g with rfl | g
   ·have d:=h.1;unfold rPC at d;split at d
    ·simp only[bN] at d;exact ⟨_,ug.mp d.2.1,(cY d.1).symm⟩
    ·simp only[bN] at d;exact ⟨_,ug.mp d.2.1,(cY d.1).symm⟩
    ·simp only[bN] at d;exact ⟨_,ug.mp d.2.1,(cY d.1).symm⟩
    simp_all
   grind
theorem WX{x y:TC}(d:x=.d (.c (.lit (.slice none 0 0))))(h:(!(yY x) || yY y)=true):x=y:=by
 subst d;simp only[yY,OK,Bool.false_or] at h
 grind
theorem exC_get:∀{xs d:List (Nat×TC)},Zs.exC xs d=true->∀(j:Nat) x y,xs[j]? = some x->d[j]? = some y->(!(yY x.2) || yY y.2)=true:=by
 intro xs;induction xs with
 |nil=>simp_all
 |cons a xs ih=>
  intro d h j x y e g;cases d with
  |nil=>grind
  |cons b d=>
   obtain ⟨_,a⟩:=a;obtain ⟨_,b⟩:=b;simp only[Zs.exC,bN] at h
   grind
theorem exN_get{σ:TH}{ρ:List (Nat×Nat)}:∀{d:TH}{e:Nat},Zs σ ρ e d=true->∀(i:Nat) w g k xs,d[i]? = some (.cells w g)->σ[(qf (e+i) ρ).getD 0]? = some (.cells k xs)->Zs.exC xs g=true:=by
 intro d;induction d with
 |nil=>simp_all
 |cons b d ih=>
  intro e h i w g k xs j m;cases i with
  |zero=>
   simp only[List.getElem?_cons_zero,au] at j;subst j;simp only[Zs,bN] at h
   simp_all
  |succ i=>
   simp only[List.getElem?_cons_succ] at j;have o:Zs σ ρ (e+1) d=true:=by
    cases b with
    |cells w p=>simp only[Zs,bN] at h;exact h.2
    |row=>exact h
    |mp=>exact h
   grind
theorem uW.symm{x y:TB}(h:uW x y):uW y x:=by
 rcases h with ⟨i,l,u,A,o,s,rfl,rfl⟩ | ⟨j,st,l,v,E,rfl,rfl⟩
 ·exact .inl ⟨i,l,o,s,u,A,rfl,rfl⟩
 ·exact .inr ⟨j,st,l,E,v,rfl,rfl⟩
theorem MX.can{σ R F:TH}{σD:ar}{s:MS}{n:Nat}(X:MX [] σ R F s n)(H1:RH σ σD)(hf:s.fz=[])(he:Zs σ s.ρ 0 F=true){ρ:Nat->Nat}(ad:∀i,i<F.length->gI 0 s i=ρ i):iW ρ F.length F σ:={
 len:=rfl
 bs:=λi hi=>by
  obtain ⟨x,y,h1,h2,h3⟩:=X.bf i hi;have U:([]:TH).length=0:=rfl;rw[U] at h1;refine ⟨y,x,h2,by simp_all,?_⟩;rcases h3 with ⟨w,cs,w',G,rfl,rfl,O⟩ | O
  ·refine .inl ⟨w',G,w,cs,rfl,rfl,?_⟩;have ab:gI 0 s i=(qf i s.ρ).getD 0:=by rw[gI,if_neg (by omega)]
   have ex:=exN_get he i w' G w cs h2 (by simp_all);refine aJ.Iu ?_ λj a b ha hb=>?_
   ·have:=O.len
    simp_all
   ·have c:=(O.get j b.2 (by simp_all));obtain ⟨a',A,c⟩:=c;rw[mE,ha] at A;simp only[Option.map_some,au] at A;subst A;have e1:=exC_get ex j b a hb ha;have blk:∀b u:Nat,Bd 0 s b u->b<F.length->u=ρ b:=λb u hb U=>by grind [Bd.KW]
    rcases c with c | ⟨c1,c2⟩
    ·rcases c with ⟨_,c2,c3⟩ | ⟨i',u,v,l,cv,_,o,_⟩ | ⟨i',E,u,v,l0,af,j',lv,l,cv,Z,o,h3,e3,h5⟩ | ⟨E,u,off,sz,Z,o,e3,K⟩ | ⟨E,u,Z,o,e3,K⟩ | ⟨f1,E,u,sz,Z,o,e3,K⟩
     ·grind [WX,D.Dy]
     ·simp_all
     ·have hF:=X.sr.row E j' l lv cv h5;have aa:=(gC.1 hF).1;obtain ⟨x,y,u1,u2,u3⟩:=X.bf E aa;have q:gI 0 s E=u:=o.KW;rw[U,q,h3] at u1;rw[hF] at u2;simp only[au] at u1 u2;subst u1 u2;rcases u3 with ⟨_,_,_,_,e,_⟩ | ⟨i2,l2,_,_,_,_,e4,e5⟩ | ⟨_,_,_,_,_,e4,_⟩
      ·simp at e
      ·grind [TC.er,D.ed]
      simp_all
     ·grind [TC.er,D.ed,MX.QW]
     ·grind [TC.er,D.ed,MX.QW]
     grind [TC.er,D.ed,D.ed.xk,MX.QW]
    grind [D.Dy,GC.low]
  ·exact .inr O.symm }
theorem OB_low(m i:Nat)(l:List (TT i)):(OB (enc i) l).low m=true:=by
 have:∀d:List C,D.low.cV m (d.map .c)=true:=by
  intro d;induction d with
  |nil=>rfl
  |cons c d ih=>simp only[ru,D.low.cV,D.low,ih,Np]
 exact this _
theorem Kt{m:Nat}:∀{ds:List D},(∀d∈ds,d.low m=true)->D.low.cV m ds=true:=by
 intro ds;induction ds with
 |nil=>intro _;rfl
 |cons d ds ih=>
  intro h;simp only[D.low.cV,bN]
  simp_all
theorem RH.low{σ:TH}(H:RH σ (σ.map TB.er)):(σ.map TB.er).all (Ob.low (σ.map TB.er).length)=true:=by
 rw[iR];intro E o;rw[gD] at o;obtain ⟨blk,s,rfl⟩:=o;obtain ⟨b,s⟩:=yB8 s;rw[wj];cases blk with
 |cells w u=>refine Kt λd hd=>?_;rw[gD] at hd;obtain ⟨p,x,rfl⟩:=hd;exact ((H.hg b w u s p x).1).low
 |row i l G K=>exact OB_low _ i l
 |mp j st l v=>have:=KF (st:=st) l 0;simp only[TB.er,Ob.low];rw[iR] at this ⊢;exact λe A=>D.eJ (Px _) (this e A)
theorem eD_low{σ:TH}{v:TV}(g:GV σ v)(e:nT v):(eD v).low σ.length=true:=by
 cases v with
 |c x=>exact GC.low g
 |agg h=>refine Kt λd hd=>?_;rw[gD] at hd;obtain ⟨x,j,rfl⟩:=hd;exact (g x j).low
 |aS h=>exact e.elim
theorem one_low{m:Nat}{ds:List D}(h:∀d∈ds,d.low m=true):(one ds).low m=true:=by
 cases ds with
 |nil=>rfl
 |cons d ds=>
  cases ds with
  |nil=>exact h d (ql ..)
  |cons e ds=>exact Kt h
theorem one_ren{ρ:Nat->Nat}{e d:List TV}(h:aJ (λ(v k:TV)=>eD v=(eD k).ed ρ) e d):one (e.map eD)=(one (d.map eD)).ed ρ:=by
 have g:e.map eD=D.ed.xk ρ (d.map eD):=by
  induction h with
  |nil=>rfl
  |cons h _ ih=>grind [D.ed.xk]
 rw[g];cases d with
 |nil=>rfl
 |cons v j=>
  cases j with
  |nil=>rfl
  |cons m j=>rfl
theorem NH(ρ:Nat->Nat):∀{l:List (Value×D×Nat)},(∀e∈l,e.2.1.low 0=true)->(l.map λe=>(e.1,e.2.1.ed ρ,e.2.2))=l:=by
 intro l;induction l with
 |nil=>simp_all
 |cons e l ih=>grind [D.Dy]
theorem Qz{ρ:Nat->Nat}{x y:TB}(h:DO ρ x y):y.er=x.er.ed ρ:=by
 rcases h with ⟨w,k,m,d,rfl,rfl,h⟩ | h
 ·simp only[TB.er,Ob.ed,Ob.cells.injEq];rw[Wd];induction h with
  |nil=>rfl
  |cons h _ ih=>simp_all
 ·rw[h.er];rcases h with ⟨i,l,o,p,e,g,rfl,rfl⟩ | ⟨j,st,l,v,q,rfl,rfl⟩
  ·grind [TB.er,Ob.ed,Qp]
  ·have:=KF (st:=st) l 0;rw[iR] at this;simp only[TB.er,Ob.ed,Ob.map.injEq,Oa];exact (NH ρ this).symm
theorem inlS_ok{P:Program}{O:ON}(hO:∀p∈O,cW P p.1 p.2):dj.ok P (inlS O):=by
 intro cs gi vs σ y ct x rv aA T ds h aa ab R a2 a5;cases cs with
 |nil=>grind
 |cons bl cs=>
  simp only[inlS] at h;split at h
  rotate_left
  ·simp at h
  rename_i k0 k hH;split at h
  rotate_left
  ·simp at h
  rename_i g s hk;split at h
  rotate_left
  ·simp at h
  rename_i bt x0 hg r;split at h
  rotate_left
  ·simp at h
  rename_i ad σ0 af;split at h
  rotate_left
  ·simp at h
  rename_i E;simp only[bN] at E;obtain ⟨E,ak⟩:=E;split at h
  rotate_left
  ·simp at h
  rename_i an _;obtain ⟨y0,a6,hy⟩:=castO (Jk an) h;have:=cY hg;subst this;obtain ⟨av,ax⟩:=hO _ (Bb hk);refine ⟨av,?_⟩;dsimp only at ax;obtain ⟨i,o,z0,a7,ha,hb,a0⟩:=Zd an hy aa;have hr:=aai ak i o ct ha hb;unfold absS at r;split at r
  ·simp_all
  rename_i s1 G;split at r
  ·simp_all
  rename_i ms U;split at r
  rotate_left
  ·simp_all
  rename_i hc;split at r
  rotate_left
  ·simp_all
  rename_i x1 a8;simp only[au,aX] at r;obtain ⟨rfl,rfl⟩:=r;simp only[bN,List.isEmpty_iff] at hc;obtain ⟨bu,a9,bb,bv⟩:=hc;obtain ⟨L0⟩:=mA af;have H0:RH ([]:TH) []:=⟨rfl,λb blk h=>by simp at h,λb w cs h=>by simp at h⟩;obtain ⟨bw,X,bc⟩:=mx_of (ct:=s.AZ) (σ:=[]) (σ1:=σ) (s2:=s1) rfl G (by rw[bb];rfl) U (by grind) a8 L0 rfl H0 R (λb blk h=>by simp at h) a5
  have b0:σ0.length=s.AZ.nb.length:=by grind [MX.len]
  let ρ:=Yr s.AZ.nb.length σ.length ms.ρ
  have K:∀i,i<σ0.length->gI 0 ms i=ρ i:=λi A=>by simp only[ρ,Yr,gI];rw[if_neg (by omega),ug.mpr (by omega)]
  have t:∀k,ρ (σ0.length+k)=σ.length+k:=λk=>by
   simp only[ρ,Yr];have:Nat.blt (σ0.length+k) s.AZ.nb.length=false:=by
    rw[Bool.eq_false_iff]
    simp_all
   simp_all
  have C0:iW ρ σ0.length σ0 σ:=X.can R a9 E K;have N:RN 0 T (σ0.map TB.er) (gI 0 ms) (λ_=>False):=by
   have:=X.rnH R
   simp_all
  have hd:aJ (du T (σ0.map TB.er) (gI 0 ms) (λ_=>False)) ds (ad.map eD):=by
   have:=X.valL R bc a2
   simp_all
  have lt:∀i,i<σ0.length->ρ i<σ.length:=λi A=>by
   obtain ⟨x,y,u1,u2,_⟩:=C0.bs i A
   grind
  have a1:∀i j,i<σ0.length->j<σ0.length->ρ i=ρ j->i=j:=λi j A Z e=>by rw[<-K i A,<-K j Z] at e;exact N.inj i j (by simp_all) (by simp_all) e
  obtain ⟨L⟩:=mA ab;obtain ⟨k1,k2,k3,k4,k5,k6⟩:=L.all R;have hr:rCT ρ σ0.length o ct=true:=by grind
  obtain ⟨bd,F0,u,be,CF⟩:=ZI a1 hr C0 t lt R L a0;obtain ⟨j1,j2,j3,j4,j5,j6⟩:=L0.all H0;obtain ⟨LF⟩:=mA u;obtain ⟨i1,i2,i3,i4,i5,i6⟩:=LF.all j1;have ok:=ax x1 y0 ad σ0 o z0 bd F0 a6 af a7 u;have S:F0.length=σ0.length+o.nb.length:=CF.len;have bh:aA.length=σ.length+ct.nb.length:=by
   have a:=(lA L.h4).len;have b:=(iO L.h1 R).len
   grind [zG,Laid.h5,Laid.fl]
  have bi:ct.nb.length=o.nb.length:=by
   have:∀{ps qs:List NB},AE ρ (σ0.length+o.nb.length) ps qs=true->qs.length=ps.length:=by
    intro ps;induction ps with
    |nil=>grind [AE]
    |cons p ps ih=>intro qs h;cases qs with | nil=>grind [AE] | cons q qs=>simp only[AE,bN] at h;grind
   simp only[rCT,bN] at hr
   grind
  have g0:=JY LF.h3;have bk:(σ0.map TB.er).length=σ0.length:=wj _;have m:(F0.map TB.er).length=F0.length:=wj _;rw[one_ren be];refine relocH ok (by omega) i1.low ?_ (ρ0:=gI 0 ms) (λi A=>K i (by omega)) N hd ?_ ?_ ?_ ?_
  ·rw[m];refine one_low λd hd=>?_;rw[gD] at hd;obtain ⟨v,hv,rfl⟩:=hd;exact eD_low ((g0 v hv).gv LF.sr) (g0 v hv).nt
  ·intro i j A Z e;rw[m] at A Z;rcases sO i σ0.length with G | G
   ·rcases sO j σ0.length with U | U
    ·grind
    grind [Nat.exists_eq_add_of_le]
   ·obtain ⟨k,rfl⟩:=yBB G;rw[t] at e;rcases sO j σ0.length with U | U
    ·grind
    grind [Nat.exists_eq_add_of_le]
  ·grind [Nat.exists_eq_add_of_le,RH.len]
  ·intro i A;rw[m,S] at A;obtain ⟨x,y,u1,u2,u3⟩:=CF.bs i A
   grind [Qz]
  ·intro j Z;rw[m,S] at Z;rcases sO j T.length with G | G
   ·refine k5 j G λhm=>?_;rw[gD] at hm;obtain ⟨q,hq,e⟩:=hm;simp only[rCT,bN] at hr
    grind [WT]
   ·rw[R.len] at G;obtain ⟨k,rfl⟩:=yBB G;have:o.nb.length<=k:=by
     rcases sO k o.nb.length with U | U
     ·exact absurd (t k) (Z (σ0.length+k) (by omega))
     omega
    rw[xAg (by grind),xAg (by grind [RH.len])]
theorem osp_ok{P:Program}{B:dj}(o:dj.ok P B){g:FuncId}{s:dr}(p:aV P g=true)
  (h:∀x,(match mY s.AZ [] x with | some (vs,σ)=>B s.QY g vs σ | none=>none)=s.f x):cW P g s:=by
 refine ⟨p,λx y vs σ q z r t d k hs u=>?_⟩;rw[<-h x,k] at d;dsimp only at d;obtain ⟨e⟩:=mA k;have A:RH ([]:TH) []:=⟨rfl,λb blk h=>by simp at h,λb w L h=>by simp at h⟩;obtain ⟨E,N,O,R,S,T⟩:=e.all A;have m:=JY e.h3;have G:fP vs (vs.map eD):=by
  have:∀(vs:List TV),(∀v∈vs,nT v)->fP vs (vs.map eD):=by
   intro vs;induction vs with
   |nil=>intro _;exact .nil
   |cons v vs ih=>intro h;exact .cons (RT.eD (h v (ql ..))) (ih λx K=>h x (lI _ K))
  exact this vs λv j=>(m v j).nt
 exact (o s.QY g vs σ y q z r t _ _ d hs u E G λv j=>(m v j).gv e.sr).2
end
end Go.Abs
end
section
namespace Go.Abs
noncomputable section
variable[Gl][Y:Ty]
def vN(P:Program)(O:ON):Prop:=∀p∈O,cW P p.1 p.2
theorem vN.nil{P:Program}:vN P []:=λp h=>by simp at h
theorem vN.cons{P:Program}{O:ON}{g:FuncId}{s:dr}(h:cW P g s)(r:vN P O):vN P ((g,s)::O):=λp j=>by
 rcases gq.1 j with rfl | j
 ·exact h
 ·exact r p j
def Vq(O:ON)(K:dj):dj:=λd g h σ=>match d with
 |[]=>none
 |e :: d => match e.H with
  |[(_,k)]=>match Nat.beq k 999999 with | true=>K (e::d) g h σ | false=>inlS O (e::d) g h σ
  |_=>none
theorem Kr{P:Program}{O:ON}{K:dj}(t:vN P O)(u:dj.ok P K):dj.ok P (Vq O K):=by
 intro v m o σ y p x q r g ds h d e s j k;unfold Vq at h;split at h
 ·simp at h
 split at h
 ·split at h
  ·exact u _ m o σ y p x q r g ds h d e s j k
  ·exact inlS_ok t _ m o σ y p x q r g ds h d e s j k
 simp_all
def inlG(P:Program)(S:sV)(N:Nat)(O:ON)(K:dj):dj:=(Rl P S N (Vq O K) (resO O) 30).1
theorem inlG_ok{P:Program}{S:sV}{N:Nat}{O:ON}{K:dj}(dE:P.follows .mixedOrders=true)(d:fw P S)(e:vN P O)(g:dj.ok P K):dj.ok P (inlG P S N O K):=(Pw dE d (Kr e g) 30).1
def tG(P:Program)(g:Nat)(S:sV)(O:ON)(K:dj)(H:List (Nat×Nat))(J:List (Nat×JH))(C:List (Nat×List CT))(d out:List dm)(N:Nat)(a:tB d):Option (lL out):=
 match P.funcs[g]? with
 |some f => match iG P f true with
  |some e => match aV P g && Nat.ble d.length e.ntmps with
   |true=>tF P S (Vq O K) (resO O) H J C 30 e d out N a
   |false=>none
  |none=>none
 |none=>none
theorem tG_ok{P:Program}{g:Nat}{S:sV}{O:ON}{K:dj}{H:List (Nat×Nat)}{J:List (Nat×JH)}{C:List (Nat×List CT)}{d out:List dm}{N:Nat}{f:tB d->Option (lL out)}(dE:P.follows .mixedOrders=true)(j:fw P S)(m:vN P O)(o:dj.ok P K)(h:∀a,tG P g S O K H J C d out N a=f a):bL P g ⟨d,out,f⟩:=by
 intro a r e;dsimp only at a r e ⊢;rw[<-h a] at e;unfold tG at e;split at e
 ·rename_i fn p;split at e
  ·rename_i s q;split at e
   ·rename_i k;simp only[bN] at k;exact tF_ok dE j p k.1 q ⟨(Pw (B:=Vq O K) dE j (Kr m o) 30).1.inl _ _ _ _ _ _ _ _,(Pw (B:=Vq O K) dE j (Kr m o) 30).2.two _ _ _ _ _ _ _ _⟩ k.2 e
   simp_all
  simp_all
 simp_all
def oG(P:Program)(g:Nat)(S:sV)(O:ON)(K:dj)(N:Nat)(s:dr)(x:dJ s.AZ.items):Option (qB s.QY):=
 match mY s.AZ [] x with
 |some (d,σ)=>inlG P S N O K s.QY g d σ
 |none=>none
theorem oG_ok{P:Program}{g:Nat}{S:sV}{O:ON}{K:dj}{N:Nat}{s:dr}(dE:P.follows .mixedOrders=true)(d:fw P S)(e:vN P O)(j:dj.ok P K)(k:aV P g=true)(h:∀x,oG P g S O K N s x=s.f x):cW P g s:=osp_ok (inlG_ok dE d e j) k h
end
end Go.Abs
end
section
namespace Go.Abs
noncomputable section
variable[Gl][Y:Ty]
abbrev nilD:D:=.c (.lit (.slice none 0 0))
def PF (es sz:Nat) (z:List D):lh:=⟨1,8,[(2,none)],.seq (.Dc [⟨some 2,.Ba (.k nilD),none⟩])
 (.seq (.seq (.Dc [⟨some 3,.Ba (.t 0),none⟩,⟨some 4,.iZ 3 false (.t 3),none⟩])
  (.cond (.t 4) (.seq (.Dc [⟨some 2,.Ba (.k nilD),none⟩]) .ret) .skip))
 (.seq (.Dc [⟨some 5,.js es 0 z [],none⟩,⟨some 6,.Ba (.t 0),none⟩,⟨some 7,.append es sz (.t 5) (.t 6),none⟩,⟨some 2,.Ba (.t 7),none⟩]) .ret)),true⟩
def cloneF(i:Nat)(a:tB [dm.c (.sl i)]):Option (lL [dm.c (.sl i)]):=cA ([]:List (TT i)) a.1
theorem dU{P:Program}:ou P (λ_ _ _ _=>none):=λt g ds σ r d wr h=>by simp at h
theorem ux{P:Program}{g i sz:Nat}{z:List D}{fn:Func}(dE:P.follows .mixedOrders=true)(k:P.funcs[g]? = some fn)(o:aV P g=true)(p:iG P fn true=some (PF (aw i) sz z))(hs:Nat.ble sz 1000=true):bL P g ⟨[.c (.sl i)],[.c (.sl i)],cloneF i⟩:=by
 intro a r j;obtain ⟨l,u⟩:=a;dsimp only at j;show Pure P g [.c (.cJ false (l.map (enc i)))] (.c (.cJ false (r.map (enc i))));obtain ⟨q,rfl⟩:=uC (l:=([]:List (TT i))) (m:=l) j;refine aae (λe d=>?_) ?_ ?_
 ·rw[gD] at d;obtain ⟨x,_,rfl⟩:=d;intro h;have:=sE i x;rw[h] at this;have s:=Y.ps i
  simp_all
 ·refine uM k o p (CY rfl) ?_;refine Sem.kw (Sem.qt dE dU (cn.op (AD rfl) iA rfl (cn.nil (.inl ?_))));refine Sem.kw ?_;refine Sem.kw (Sem.qt dE dU (cn.op (AD rfl) iA rfl (cn.op (fy (b:=false) rfl rfl) iA rfl (cn.nil (.inl ?_)))));refine Sem.cond (b:=false) rfl (λh=>by simp at h) λ_=>Sem.skip dE (.inl ?_);refine Sem.kw (Sem.qt dE dU (cn.op (jO (f:=enc i) (l:=([]:List (TT i))) rfl rfl rfl (sE i) rfl rfl rfl) iA rfl (cn.op (AD rfl) iA rfl
   (cn.op (wC (f:=enc i) (l:=([]:List (TT i))) (m:=r) (r:=r) (sE i) rfl rfl rfl rfl (DH (sE i)) j hs rfl rfl) iA rfl (cn.op (AD rfl) iA rfl (cn.nil (.inl ?_)))))))
  refine Sem.ret dE ⟨.inr rfl,_,_,rfl,frz_own (l:=r) (sE i) (Y.ps i) rfl rfl,Fe.QS rfl⟩
 ·intro d;rw[d];refine uM k o p (CY rfl) ?_;refine Sem.kw (Sem.qt dE dU (cn.op (AD rfl) iA rfl (cn.nil (.inl ?_))));refine Sem.kw ?_;refine Sem.kw (Sem.qt dE dU (cn.op (AD rfl) iA rfl (cn.op (fy (b:=true) rfl rfl) iA rfl (cn.nil (.inl ?_)))));refine Sem.cond (b:=true) rfl (λ_=>?_) λh=>by simp at h
  refine Sem.kw (Sem.qt dE dU (cn.op (AD rfl) iA rfl (cn.nil (.inl ?_))));refine Sem.ret dE ⟨.inr rfl,_,_,rfl,rfl,Fe.QS rfl⟩
theorem ok_nil{P:Program}{g:FuncId}{es:List (List C)}{r:D}{σ σ':ar}(q:∀e∈es,e≠[])(G:Ok P g [.c (.cJ true es)] σ r σ')(K:es=[]->Ok P g [.c (.lit (.slice none 0 0))] σ r σ'):Ok P g [.c (.cJ false es)] σ r σ':=by
 intro M Fz w h R hs L;have s:h[0]? = some (h[0]'(by simp_all)):=sI _;have j:=L 0 _ _ rfl s;generalize S:h[0]'(by simp_all)=x at j s;have only:∀d,V σ M Fz w d x->∀(i:Nat) t v,[d][i]? = some t->h[i]? = some v->V σ M Fz w t v:=by grind
 cases j with
 |c u=>
  generalize A:C.cJ false es=y at u;cases u with
  |cJ aw a cap N E c m k o p=>
   simp only[C.cJ.injEq] at A;obtain ⟨rfl,rfl⟩:=A;cases a with
   |some a=>exact G M Fz w h R hs (only _ (.c (.cJ aw (some a) cap (λ_=>rfl) E c m k o p)))
   |none=>
    have O:es=[]:=by simp_all
    subst O;have:=E rfl;subst this;exact K rfl M Fz w h R hs (only _ (.c (.lit _)))
  |_=>grind
theorem UL{P:Program}{g:FuncId}{ds:List D}(h:Ok P g ds [] nilD [])(es:Nat):Ok P g ds [] (.sl 0 0 0 es 0) [.cells []]:=by
 intro M Fz w r R hs s;refine (h M Fz w r R hs s).mono λe E t=>?_;obtain ⟨v,k,m,u,j,p,d⟩:=t;have x:∀b,k b=none:=λb=>by
  cases q:k b with
  |none=>rfl
  |some c=>obtain ⟨_,y,o,G,_⟩:=j.blk b c q;grind
 refine ⟨v,k,m,u,⟨λb c q=>(by simp_all),j.inj,j.fz,j.gl⟩,?_,⟨d.size,d.frame,d.ld,d.fz,d.ow,d.qo,λb y q=>by grind,d.out⟩⟩;cases p with
 |c A=>
  cases A with
  |lit=>exact .sl none 0 0 (λh=>absurd rfl h) (.cells []) rfl (cX _) λ_=>.inl ⟨rfl,rfl,rfl,rfl,rfl,rfl⟩
theorem rn_id{i:Nat}{l:List (TT i)}:RN 0 [OB (enc i) l] [OB (enc i) l] id (λ_=>False):={
 le:=Px _
 id:=λi h=>rfl
 inj:=λi j _ _ h=>h
 fr:=λ_ _ h=>h
 row:=λ_ h=>h.elim
 sz:=λj g=>by simp_all
 ob:=λj g=>by
  have:j=0:=by simp_all
  subst this;have N:Rn 0 [OB (enc i) l] [OB (enc i) l] id (λ_=>False):=⟨Px _,λi h=>rfl,λi j _ _ h=>h,λ_ _ h=>h,λ_ h=>h.elim,λj g=>by simp_all⟩
  refine ⟨_,_,rfl,rfl,_,rfl,aJ.Iu rfl λk a b d e=>?_⟩;rw[d] at e;simp only[au] at e;subst e;rw[mE,cE] at d;obtain ⟨c,_,rfl⟩:=d;exact du.data N rfl }
theorem mH{P:Program}{g i sz:Nat}{z:List D}{fn:Func}(dE:P.follows .mixedOrders=true)(s:P.funcs[g]? = some fn)(v:aV P g=true)(t:iG P fn true=some (PF (aw i) sz z))(hs:Nat.ble sz 1000=true) :
  cW P g ⟨.mk [.v (.c (.sl i))] [] [] [] [] [],[.mk [.p (.hd 0)] [] [.row i] [] [] []],λx=>cA ([]:List (TT i)) x⟩:=by
 refine ⟨v,λx y A σ L z E G q r d K=>?_⟩;dsimp only at q r d;change dJ [It.cc (.sl i)] at x;change dJ [It.ls i] at y;have o:some ([TV.c (.sl i x)],([]:TH))=some (A,σ):=by rw[<-r];have e:dR (CT.items (.mk [.v (.c (.sl i))] [] [] [] [] [])) x=[⟨.cc (.sl i),x⟩]:=rfl;unfold mY;rw[e];simp only[CT.pl,CT.nb,CT.out,cd,dA,kZ,zu,Gb,dV,dO,DA];rfl
 simp only[au,aX] at o;obtain ⟨rfl,rfl⟩:=o;simp only[tX,au,yB2] at d;obtain ⟨rfl,N⟩:=d;have p:some ([TV.c (.own i 0 0 (List.length (α:=TT i) y))],[TB.row i y 0 0])=some (E,G):=by rw[<-K];have e:dR (CT.items (.mk [.p (.hd 0)] [] [.row i] [] [] [])) y=[⟨.ls i,y⟩]:=rfl;unfold mY;rw[e];simp only[CT.pl,CT.nb,CT.out,cd,dA,kZ,zu,wY,Gb,dV,dO,DA,List.nil_append,List.getElem?_cons_zero]
 simp only[au,aX] at p;obtain ⟨rfl,rfl⟩:=p;obtain ⟨u,rfl⟩:=uC (l:=([]:List (TT i))) (m:=x) q;show Ok P g [.c (.cJ false (List.map (enc i) y))] [] (OS (aw i) 0 (List.length (α:=TT i) y)) [OB (enc i) y];refine ok_nil (λe k=>?_) ?_ ?_
 ·rw[gD] at k;obtain ⟨x,_,rfl⟩:=k;intro h;have:=sE i x;rw[h] at this;have r:=Y.ps i
  simp_all
 ·refine qH s t (CY rfl) ?_;refine Sem.kw (Sem.qt dE dU (cn.op (AD rfl) iA rfl (cn.nil (.inl ?_))));refine Sem.kw ?_;refine Sem.kw (Sem.qt dE dU (cn.op (AD rfl) iA rfl (cn.op (fy (b:=false) rfl rfl) iA rfl (cn.nil (.inl ?_)))));refine Sem.cond (b:=false) rfl (λh=>by simp at h) λ_=>Sem.skip dE (.inl ?_);refine Sem.kw (Sem.qt dE dU (cn.op (jO (f:=enc i) (l:=([]:List (TT i))) rfl rfl rfl (sE i) rfl rfl rfl) iA rfl (cn.op (AD rfl) iA rfl
   (cn.op (wC (f:=enc i) (l:=([]:List (TT i))) (sE i) rfl rfl rfl rfl (DH (sE i)) q hs rfl rfl) iA rfl (cn.op (AD rfl) iA rfl (cn.nil (.inl ?_)))))))
  refine Sem.ret dE ⟨.inr rfl,_,id,λ_=>False,rfl,rn_id,λ_ h=>h.elim,?_⟩;exact du.sl rn_id.toRn (i:=0) (Nat.lt_succ_self 0)
 ·intro k;have k:y=([]:List (TT i)):=List.map_eq_nil_iff.1 k;subst k;have e:OS (aw i) 0 (List.length (α:=TT i) [])=.sl 0 0 0 (aw i) 0:=by simp[OS]
  rw[e];refine UL ?_ (aw i);refine qH s t (CY rfl) ?_;refine Sem.kw (Sem.qt dE dU (cn.op (AD rfl) iA rfl (cn.nil (.inl ?_))));refine Sem.kw ?_;refine Sem.kw (Sem.qt dE dU (cn.op (AD rfl) iA rfl (cn.op (fy (b:=true) rfl rfl) iA rfl (cn.nil (.inl ?_)))));refine Sem.cond (b:=true) rfl (λ_=>?_) λh=>by simp at h
  refine Sem.kw (Sem.qt dE dU (cn.op (AD rfl) iA rfl (cn.nil (.inl ?_))));refine Sem.ret dE ⟨.inr rfl,_,id,λ_=>False,rfl,⟨⟨cX _,λi h=>rfl,λi j _ _ h=>h,λ_ _ h=>h,λ_ h=>h.elim,λi h=>by simp at h⟩,λi h=>by simp at h⟩,λ_ h=>h.elim,?_⟩;exact du.data ⟨cX _,λi h=>rfl,λi j _ _ h=>h,λ_ _ h=>h,λ_ h=>h.elim,λi h=>by simp at h⟩ rfl
theorem rn_rows{σ:ar}(h:∀ob∈σ,∃(i:Nat)(l:List (TT i)),ob=OB (enc i) l){m:Nat}(hm:m<=σ.length):RN m σ σ id (λ_=>False):=by have N:Rn m σ σ id (λ_=>False):=⟨hm,λi _=>rfl,λi j _ _ e=>e,λ_ _ e=>e,λ_ e=>e.elim,λi d=>⟨_,_,eS d,eS d,rfl⟩⟩;refine ⟨N,λi d=>⟨_,_,eS d,eS d,?_⟩⟩;obtain ⟨k,l,e⟩:=h _ (bG d);rw[e];refine ⟨_,rfl,aJ.Iu rfl λk a b g o=>?_⟩;rw[g] at o;simp only[au] at o;subst o;rw[mE,cE] at g;obtain ⟨c,_,rfl⟩:=g;exact du.data N rfl
theorem Fj{P:Program}{g ii sz:Nat}{z:List D}{fn:Func}(dE:P.follows .mixedOrders=true)(G:P.funcs[g]? = some fn)(X:aV P g=true)(K:iG P fn true=some (PF (aw ii) sz z))(hs:Nat.ble sz 1000=true) :
  cW P g ⟨.mk [.p (.hd 0)] [] [.row ii] [] [] [],[.mk [.p (.hd 1)] [] [.row ii] [] [] []],λx=>cA ([]:List (TT ii)) x⟩:=by
 refine ⟨X,λx y p σ ct z Z aA u L k hq=>?_⟩;dsimp only at u L k;change dJ [It.ls ii] at x;change dJ [It.ls ii] at y;have s:some ([TV.c (.own ii 0 0 (List.length (α:=TT ii) x))],[TB.row ii x 0 0])=some (p,σ):=by rw[<-L];have e:dR (CT.items (.mk [.p (.hd 0)] [] [.row ii] [] [] [])) x=[⟨.ls ii,x⟩]:=rfl;unfold mY;rw[e];simp only[CT.pl,CT.nb,CT.out,cd,dA,kZ,zu,wY,Gb,dV,dO,DA,List.nil_append,List.getElem?_cons_zero]
 simp only[au,aX] at s;obtain ⟨rfl,rfl⟩:=s;simp only[tX,au,yB2] at k;obtain ⟨rfl,hz⟩:=k;have t:some ([TV.c (.own ii 1 0 (List.length (α:=TT ii) y))],[TB.row ii x 0 0,TB.row ii y 0 0])=some (Z,aA):=by rw[<-hq];have e:dR (CT.items (.mk [.p (.hd 1)] [] [.row ii] [] [] [])) y=[⟨.ls ii,y⟩]:=rfl;unfold mY;rw[e];simp only[CT.pl,CT.nb,CT.out,cd,dA,kZ,zu,wY,Gb,dV,dO,List.cons_append,List.nil_append,List.getElem?_cons_zero,List.getElem?_cons_succ]
 simp only[au,aX] at t;obtain ⟨rfl,rfl⟩:=t;obtain ⟨N,rfl⟩:=uC (l:=([]:List (TT ii))) (m:=x) u;show Ok P g [OS (aw ii) 0 (List.length (α:=TT ii) y)] [OB (enc ii) y] (OS (aw ii) 1 (List.length (α:=TT ii) y)) [OB (enc ii) y,OB (enc ii) y];have rn:RN 1 [OB (enc ii) y,OB (enc ii) y] [OB (enc ii) y,OB (enc ii) y] id (λ_=>False):=rn_rows (λob h=>by grind) (by simp)
 have fin:du [OB (enc ii) y,OB (enc ii) y] [OB (enc ii) y,OB (enc ii) y] id (λ_=>False) (OS (aw ii) 1 (List.length (α:=TT ii) y)) (OS (aw ii) 1 (List.length (α:=TT ii) y)):=du.sl rn.toRn (i:=1) (Nat.lt_succ_self 1);have O:∀d,(isNil 3 d=some false)->Src [OB (enc ii) y,OB (enc ii) ([]:List (TT ii))] (enc ii) (aw ii) d y->Ok P g [d] [OB (enc ii) y] (OS (aw ii) 1 (List.length (α:=TT ii) y)) [OB (enc ii) y,OB (enc ii) y]:=λd hd A=>by
  refine qH G K (CY rfl) ?_;refine Sem.kw (Sem.qt dE dU (cn.op (AD rfl) iA rfl (cn.nil (.inl ?_))));refine Sem.kw ?_;refine Sem.kw (Sem.qt dE dU (cn.op (AD rfl) iA rfl (cn.op (fy (b:=false) rfl hd) iA rfl (cn.nil (.inl ?_)))));refine Sem.cond (b:=false) rfl (λh=>by simp at h) λ_=>Sem.skip dE (.inl ?_);refine Sem.kw (Sem.qt dE dU (cn.op (jO (f:=enc ii) (l:=([]:List (TT ii))) rfl rfl rfl (sE ii) rfl rfl rfl) iA rfl (cn.op (AD rfl) iA rfl
   (cn.op (wC (f:=enc ii) (l:=([]:List (TT ii))) (m:=y) (r:=y) (sE ii) rfl rfl rfl rfl A u hs rfl rfl) iA rfl (cn.op (AD rfl) iA rfl (cn.nil (.inl ?_)))))))
  exact Sem.ret dE ⟨.inr rfl,_,id,λ_=>False,rfl,rn,λ_ h=>h.elim,fin⟩
 cases y with
 |cons a l=>exact O _ rfl (Sy (sE ii) rfl rfl)
 |nil=>
  intro M Fz w p R hs hv;have S:p[0]? = some (p[0]'(by simp_all)):=sI _;have q:=hv 0 _ _ rfl S;generalize hx:p[0]'(by simp_all)=x at q S;have only:∀d,V [OB (enc ii) ([]:List (TT ii))] M Fz w d x->∀(i:Nat) U v,[d][i]? = some U->p[i]? = some v->V [OB (enc ii) ([]:List (TT ii))] M Fz w U v:=by grind
  have e0:OS (aw ii) 0 (List.length (α:=TT ii) [])=.sl 0 0 0 (aw ii) 0:=by simp[OS]
  rw[e0] at q;cases q with
  |sl a n cap aa ob h ab E=>
   simp only[List.getElem?_cons_zero,au] at h;subst h;rcases E rfl with ⟨rfl,rfl,rfl,_⟩ | ⟨c,o,ad,T,h1,rfl,rfl,h2,h3,h4,h5,h6⟩
   ·refine (show Ok P g [nilD] [OB (enc ii) ([]:List (TT ii))] (OS (aw ii) 1 0) [OB (enc ii) ([]:List (TT ii)),OB (enc ii) ([]:List (TT ii))] from ?_) M Fz w p R hs (only _ (.c (.lit _)));refine qH G K (CY rfl) ?_;refine Sem.kw (Sem.qt dE dU (cn.op (AD rfl) iA rfl (cn.nil (.inl ?_))));refine Sem.kw ?_;refine Sem.kw (Sem.qt dE dU (cn.op (AD rfl) iA rfl (cn.op (fy (b:=true) rfl rfl) iA rfl (cn.nil (.inl ?_)))));refine Sem.cond (b:=true) rfl (λ_=>?_) λh=>by simp at h
    refine Sem.kw (Sem.qt dE dU (cn.op (AD rfl) iA rfl (cn.nil (.inl ?_))));refine Sem.own 2 (aw ii) rfl rfl rfl ?_;refine Sem.ret dE ⟨.inr rfl,_,id,λ_=>False,rfl,rn,λ_ h=>h.elim,?_⟩;have:=fin;rw[show OS (aw ii) 1 (List.length (α:=TT ii) [])=.sl 1 0 0 (aw ii) 0 by simp[OS]] at this;rw[show OS (aw ii) 1 0=.sl 1 0 0 (aw ii) 0 by simp[OS]];exact this
   ·exact O (.c (.cJ true [])) rfl (DH (nn:=true) (m:=([]:List (TT ii))) (sE ii)) M Fz w p R hs (only _ (.c (.cJ (aw ii) _ cap (λ_=>rfl) (λh=>by simp at h) (λ_ _=>undef) (λe h=>by simp at h) (Px _) (λi j e d h=>by simp at h) (λi j e d h=>by simp at h))))
theorem clo_ok{P:Program}{g:Nat}{out:List dm}(f:tB []->Option (lL out))(dE:P.follows .mixedOrders=true)(h:(evF P (Tk P []) (λ_ _ _=>none) 1000 1 g [] []).map (λp=>(nrmY p.1,p.2.1))=(f ()).map λv=>(tZ out v,[])):bL P g ⟨[],out,f⟩:=by
 intro a r o;have d:f ()=some r:=o;rw[d] at h;cases m:evF P (Tk P []) (λ_ _ _=>none) 1000 1 g [] [] with
 |none=>simp_all
 |some p=>obtain ⟨q,j,wr⟩:=p;rw[m] at h;simp only[Option.map_some,au,aX] at h;obtain ⟨s,rfl⟩:=h;have O:=evF_ok dE (YS P []) (prim:=λ_ _ _=>none) (λg ds σ r j wr h=>by simp at h) 1000 1 g [] [] q [] wr m;refine ⟨O.1,λM Fz w t R hs u=>?_⟩;refine (O.2.1 M Fz w t R hs u).mono λe L x=>?_;obtain ⟨v,y,k,A,E,G,K⟩:=x;exact ⟨v,y,k,A,E,Fe.of_nrmY s _ _ _ _ _ G,K⟩
end
end Go.Abs
end
section
namespace Go.Abs
noncomputable section
open Go.RowKit
variable[Gl][Y:Ty]
structure qT (P:Program) (gs gk:FuncId) (kt:TypeId):Prop where
 en:aV P gs=true
 ku:P.underlying kt=some (.int .i64)
 run:∀(Bm b nn:Nat)(D0:DataW Unit)(R:Value->Option (DataW Unit×List MemPlace))(w:World),Bm<w.heap.size->w.cell? ⟨Bm,0,none⟩=some (.map (some b))->w.ownsMap P kt R b nn D0->Maps.size D0<=maxLen->Maps.size D0 * 8<=140737488355328 ->
  Calls P gs #[.func (.func gk) #[] #[.pointer (some ⟨Bm,0,none⟩)]] w λe w'=>∃(v:Value)(ss:List Int)(et:TypeId),e=.returned v/\ss.Perm (intKeys D0)/\w'.ownsRow w.heap.size et 1 v ss.length ((ss.mergeSort (λx y=>decide (x<=y))).map encZ)/\(v=.slice none 0 0↔ss=[])/\Below w.heap.size w w'
def zH{α d:Type}(c:Int->d)(l:List (Int×α)):Option (List d):=
 if l.length<=1000000/\(l.map Prod.fst).Nodup/\(∀p∈l,(Lit.int .i64 p.1).wf=true) then some (((l.map Prod.fst).mergeSort (λx y=>decide (x<=y))).map c) else none
def ZE(ct:CT)(ii:Nat):Bool:=match ct.out,ct.pl,ct.nb with
 |[.v (.c (.sl j))],[],[]=>Nat.beq j ii
 |_,_,_=>false
def KE(e j:FuncId)(ii:Nat)(c:Int->TT ii):dj:=λk g o σ=>
 match k with
 |[d] => match Nat.beq g e, o with
  |true, [.c (.d (.fn (.func f) [] [.ptr b 0 1]))] => match Nat.beq f j, σ[b]? with
   |true, some (.cells _ [(_, .d (.mp m))]) => match σ[m]? with
    |some (.mp _ _ l _) => match ZE d ii, decEq [It.cc (.sl ii)] d.items with
     |true,.isTrue h=>cast (Dr (λi=>Option (dJ i)) h) (zH c l)
     |_,_=>none
    |_=>none
   |_,_=>none
  |_,_=>none
 |_=>none
theorem PA{α d:Type}(p:Option α=Option d)(e:α=d){o:Option α}{y:d}(h:cast p o=some y):∃g,o=some g/\HEq g y:=by grind
theorem mbE_get{α:Type}{g:α->D}:∀(l:List (Int×α))(i j:Nat),(Af g i l)[j]? = (l[j]?).map λp=>(.int .i64 p.1,g p.2,i+j):=by
 intro l;induction l with
 |nil=>intro i j;rfl
 |cons p l ih=>grind [Af]
theorem mbE_len{α:Type}{g:α->D}:∀(l:List (Int×α))(i:Nat),(Af g i l).length=l.length:=by
 intro l;induction l with
 |nil=>intro i;rfl
 |cons p l ih=>grind [Af]
theorem Km{P:Program}{gs gk:FuncId}{u:TypeId}(K:qT P gs gk u){ii:Nat}{c:Int->TT ii}(hc:∀k,enc ii (c k)=[.lit (.int .i64 k)]){σ:ar}{b m:Nat}{α:Type}{g:α->D}{l:List (Int×α)}{r:List (TT ii)}
  (hb:σ[b]? = some (.cells [.mp m])) (hm:σ[m]? = some (MB g l)) (hr:zH c l=some r):Ok P gs [.fn (.func gk) [] [.ptr b 0 1]] σ (.c (.cJ false (r.map (enc ii)))) σ:=by
 unfold zH at hr;split at hr
 rotate_left
 ·grind
 rename_i aa;obtain ⟨S,bw,b0⟩:=aa;simp only[au] at hr;intro M Fz w vs R hs a7;have U:vs=#[vs[0]'(by simp_all)]:=by grind
 have hv:=a7 0 _ _ rfl (sI (by grind));generalize vs[0]'(by grind)=v0 at hv U;subst U;cases hv with
 |fn v1 ws h1 h2 _ hw=>
  have e1:v1=#[]:=by simp_all
  subst e1;have e2:ws=#[ws[0]'(by simp_all)]:=by grind
  have hp:=hw 0 _ _ rfl (sI (by grind));generalize ws[0]'(by grind)=p at hp e2;subst e2;have X:od σ b 1=some [.mp m]:=Pc hb rfl;obtain ⟨cb,hM,rfl⟩:=hp.wP X;obtain ⟨a8,_⟩:=OJ X;obtain ⟨t,T,hh,hl,a9⟩:=R.row hM a8;have ea:t[0]? = some (t[0]'(by omega)):=sI _;have bb:=(a9 0 _ _ rfl ea).1;obtain ⟨cm,b1,bc⟩:=bb.DM hm;obtain ⟨s,ck,bd,⟨ax,hB⟩,bl⟩:=R.Oi hm bc;rw[mbE_len] at ax;have ab:w.cell? ⟨cb,0,none⟩=some (.map (some cm)):=by grind [Go.cell_of_row]
  have be:∀(i:Nat) e,s[i]? = some e->∃p,l[i]? = some p/\e.key=.int .i64 p.1/\True:=λi e A=>by
   have Z:i<l.length:=by grind
   have h3:(Af g 0 l)[i]? = some (.int .i64 l[i].1,g l[i].2,0+i):=by grind [mbE_get]
   grind
  let RR:Value->Option (DataW Unit×List MemPlace):=λ_=>some (.nil,[])
  have ad:s.toList.length=l.length:=by omega
  have af:s.toList.map (·.key)=(l.map Prod.fst).map (Value.int .i64):=by
   apply T_
   grind
  have b2:∀e∈s.toList,∃p∈l,e.key=.int .i64 p.1/\Go.WideElems.rd P u RR e=some (.int .i64 p.1,.nil):=λe A=>by
   obtain ⟨i,Z⟩:=yB8 A
   grind [Go.WideElems.rd,Go.Maps.keyOf_int_mk,qT.ku]
  have a0:Go.WideElems.Fit P u RR s ck:=by
   refine ⟨by rw[ax];exact lK S (by decide),⟨λe A=>?_,?_,?_⟩,λe A=>?_⟩
   ·exact hB.2 e A
   ·exact hB.1
   ·grind
   grind
  have E:((s.toList.map (Go.WideElems.rg P u RR)).foldr DataW.insert []).Perm (s.toList.map (Go.WideElems.rg P u RR)):=Go.WideShapes.sorted_perm _;have a1:w.ownsMap P u RR cm l.length (.map ((s.toList.map (Go.WideElems.rg P u RR)).foldr DataW.insert [])):=⟨s,ck,bd,a0,by omega,rfl⟩;have ak:(intKeys (.map ((s.toList.map (Go.WideElems.rg P u RR)).foldr DataW.insert []):DataW Unit)).Perm (l.map Prod.fst):=by
   refine (E.map _).trans ?_;have:(s.toList.map (Go.WideElems.rg P u RR)).map (λp=>intOf p.1)=l.map Prod.fst:=by
    rw[Wd];have h5:(l.map Prod.fst).map (Value.int .i64)=s.toList.map (·.key):=af.symm;apply T_;intro i;rw[mE,mE,OD];cases A:s[i]? with
    |none=>simp_all
    |some e=>obtain ⟨p,h3,h4,_⟩:=be i e A;have hp:=Bb h3;rw[h3];simp only[Option.map_some,Function.comp,au];rw[Go.WideElems.rg_of (show Go.WideElems.rd P u RR e=some (.int .i64 p.1,.nil) by grind [Go.WideElems.rd,Go.Maps.keyOf_int_mk,qT.ku])];rfl
   rw[this]
  have a2:Maps.size (.map ((s.toList.map (Go.WideElems.rg P u RR)).foldr DataW.insert []):DataW Unit)=l.length:=by rw[Maps.size_eq,E.length_eq,wj,ad]
  refine (K.run cb cm l.length _ RR w (R.lt hM).2 ab a1 (by rw[a2];exact lK S (by decide)) (by omega)).mono λe N A=>?_;obtain ⟨v,G,et,rfl,hp,an,bt,O⟩:=A;have av:G.mergeSort (λx y=>decide (x<=y))=(l.map Prod.fst).mergeSort (λx y=>decide (x<=y)):=mergeSort_of_perm_i (hp.trans ak);have bh:r.map (enc ii)=((l.map Prod.fst).mergeSort (λx y=>decide (x<=y))).map λk=>[C.lit (.int .i64 k)]:=by grind [List.map_congr_left]
  rw[bh,<-av];have QW:(G.mergeSort (λx y=>decide (x<=y))).length=G.length:=List.length_mergeSort G;obtain ⟨_,an⟩:=an;rcases an with ⟨rfl,h0⟩ | ⟨gb,cap,a5,rfl,b3,a6,bu,_,bv,b4⟩
  ·have:G=[]:=Yy h0;subst this;refine ⟨_,M,Fz,rfl,R.below O,.c ?_,bH.below R O⟩;rw[show ([]:List Int).mergeSort (λx y=>decide (x<=y))=[] from Yy (by omega)];exact .cJ 1 none 0 (λh=>by simp at h) (λ_=>rfl) (λ_ _=>undef) (λe A=>by grind) (cX _) (λi j e d h=>by simp at h) (λi j e d h=>by simp at h)
  ·have bi:∀(i:Nat) k,(G.mergeSort (λx y=>decide (x<=y)))[i]? = some k->N.cell? ⟨gb,0+i * 1+0,none⟩=some (.int .i64 k):=λi k hk=>by
    rw[cell_of_row N gb _ a5 et (0,0) a6];have Z:i<G.length:=by grind
    have h6:(a5.toList.take (G.length * 1))[i]? = some (encZ k):=by simp_all
    grind
   let L:Nat->Prop:=λx=>Fz x∨x=gb
   have RB:=R.below O;have EB:=bH.below R O;have b5:gb<N.heap.size:=(Cy.1 a6).1;have mono:∀x:Nat,Fz x->L x/\N.heap[x]? = N.heap[x]?:=λx h=>⟨.inl h,rfl⟩;have mv:∀{d v},V σ M Fz N d v->V σ M L N d v:=λh=>h.sub (λb ob hb=>⟨ob,hb,rfl⟩) (λ_ _ h=>h) mono (λc t T fr h=>⟨t,h,rfl⟩);have R2:Rel σ M L N:=by
    refine ⟨λb' x h=>?_,RB.inj,λx h=>?_,Gl.mono mono RB.gl⟩
    ·obtain ⟨h1,ob,o,h2,h3,h4⟩:=RB.blk b' x h;have hx:x<w.heap.size:=(R.lt h).2;refine ⟨λhf=>?_,ob,o,h2,h3,?_⟩
     ·grind
     ·cases ob with
      |cells cs=>obtain ⟨t,T,ho,hl,hv⟩:=h4;exact ⟨t,T,ho,hl,λi d v x y=>⟨mv (hv i d v x y).1,(hv i d v x y).2⟩⟩
      |map es bk=>obtain ⟨t,ho,hl,hv⟩:=h4;exact ⟨t,ho,hl,λi k d n e x y=>let ⟨p,q,r⟩:=hv i k d n e x y;⟨p,q,mv r⟩⟩
      |gone n=>exact h4.elim
    ·rcases h with h | rfl
     ·exact RB.fz x h
     omega
   have E2:bH σ M Fz w σ M L N:=⟨EB.size,EB.frame,EB.ld,λx h=>⟨.inl h,(EB.fz x h).2⟩,λx h=>by grind,EB.qo,EB.keep,EB.out⟩
   refine ⟨_,M,L,rfl,R2,.c ?_,E2⟩;have e7:G.length=((G.mergeSort (λx y=>decide (x<=y))).map λk=>[C.lit (.int .i64 k)]).length:=by simp_all
   rw[e7];refine .cJ 1 (some ⟨gb,0,none⟩) cap (λh=>by simp at h) (λh=>by simp at h) (λi _=>.int .i64 ((G.mergeSort (λx y=>decide (x<=y)))[i]?.getD 0)) (λe A=>?_) (by omega) (λi j e d Z hj=>?_) (λi j e d Z hj=>?_)
   ·grind
   ·rw[mE,cE] at Z;obtain ⟨k,hk,rfl⟩:=Z;cases j with
    |succ j=>grind
    |zero=>
     refine ⟨gb,0,rfl,.inr rfl,?_,rfl⟩
     grind
   ·rw[mE,cE] at Z;obtain ⟨k,hk,rfl⟩:=Z;cases j with
    |succ j=>grind
    |zero=>simp only[List.getElem?_cons_zero,au] at hj;subst hj;rw[hk];exact .lit _
theorem Qo{P:Program}{O R:FuncId}{T:TypeId}(K:qT P O R T){ii:Nat}{c:Int->TT ii}(U:∀k,enc ii (c k)=[.lit (.int .i64 k)]):dj.ok P (KE O R ii c):=by
 intro cs gi vs σ y ct x X Z aa ds h e d q s ab;unfold KE at h;split at h
 rotate_left
 ·simp at h
 rename_i o;split at h
 rotate_left
 ·simp at h
 rename_i f b hg;split at h
 rotate_left
 ·simp at h
 rename_i w0 v0 m hf hb;split at h
 rotate_left
 ·simp at h
 rename_i j st l R_ hm;split at h
 rotate_left
 ·simp at h
 rename_i OM t _;obtain ⟨S,hk,hy⟩:=PA _ (show dJ [It.cc (.sl ii)]=qB [o] from Dr dJ OM) h;have:=cY hg;subst this;have:=cY hf;subst this;simp only[tX,au,yB2] at e;obtain ⟨rfl,hz⟩:=e;cases hz;obtain ⟨out,pl,nb,H,J,C⟩:=o;simp only[ZE,CT.out,CT.pl,CT.nb] at t;split at t
 rotate_left
 ·grind
 obtain rfl:ii=_:=(cY t).symm;have u:ds=[.fn (.func f) [] [.ptr b 0 1]]:=by
  cases s with
  |cons r a=>cases a;rw[RT.c1 (by simp) r];rfl
 subst u;have p:dR (CT.items (.mk [.v (.c (.sl ii))] [] [] H J C)) y=[⟨.cc (.sl ii),S⟩]:=by grind [dR]
 have g:X=[.c (.sl ii S)]/\Z=σ:=by unfold mY at d;rw[p] at d;simp only[CT.pl,CT.nb,CT.out,cd,dA,kZ,zu,Gb,dV,dO,DA,au,aX] at d;exact ⟨d.1.symm,d.2.symm⟩
 obtain ⟨rfl,rfl⟩:=g;refine ⟨K.en,?_⟩;have v:=q.hp b _ hb;have A:=q.hp m _ hm;obtain ⟨E,b1,G⟩:=v;obtain ⟨L,m1,N⟩:=A;have G:E=.cells [.mp m]:=G;have N:L=MB (Lm j st) l:=N;subst G N;have:=Km K U b1 m1 hk;rw[<-q.eqD];exact this
end
end Go.Abs
end
section
namespace Go.Abs
noncomputable section
variable[Gl][Y:Ty]
section
variable{P:Program}{orc:wK}{n:Nat}{al:AL}{σ σ1:ar}
end
theorem Ok.cut{P:Program}{g:FuncId}{ds:List D}{K X garb:List D}{k es sz:Nat}(h:Ok P g ds [.cells K] (.sl 0 0 k es sz) [.cells X])(hX:X.length=sz)(hk:k * es<=sz)(hd:∀d∈X.take (k * es),∃c,d=D.c c)(hg:sz<garb.length)(ad:K.length<=sz) :
  Ok P g ds [.cells K] (.sl 1 0 k es (k * es)) [.cells garb,.cells (X.take (k * es))]:=by
 intro M Fz w vs R hs hv;refine (h M Fz w vs R hs hv).mono λe w' he=>?_;obtain ⟨v,O,U,rfl,A,Z,E⟩:=he;have af:∀c,O 0=some c->∀b,O b=some c->b=0:=λc h b j=>A.inj b 0 c j h;refine ⟨v,λb=>if b=1 then O 0 else none,U,rfl,⟨λb c j=>?_,λb b' c j ak=>?_,A.fz,A.gl⟩,?_,?_⟩
 ·split at j
  ·rename_i e1;subst e1;obtain ⟨h1,ob,o,u,h3,h4⟩:=A.blk 0 c j;simp only[List.getElem?_cons_zero,au] at u;subst u;obtain ⟨s,T,ho,hl,hx⟩:=h4;refine ⟨h1,.cells (X.take (k * es)),o,rfl,h3,s,T,ho,by grind,λi d v q1 q2=>?_⟩;obtain ⟨x,rfl⟩:=hd d (Bb q1);have q3:X[i]? = some (.c x):=by
    grind
   obtain ⟨G,q5⟩:=hx i _ v q3 q2;refine ⟨?_,q5⟩;cases G with
   |c G=>exact .c G
  simp_all
 ·simp_all
 ·cases Z with
  |sl a n cap aa ob u an ab=>
   simp only[List.getElem?_cons_zero,au] at u;subst u;refine .sl a n cap aa (.cells (X.take (k * es))) rfl (by grind [Ob.sz]) (λ_=>?_);rcases ab (by grind [Ob.sz]) with ⟨q1,q2,q3,G,q5,q6⟩ | ⟨c,o,s,T,hM,ha,hn,hl,ho,hh,j,hz⟩
   ·simp_all
   ·exact .inr ⟨c,o,s,T,by grind,ha,hn,⟨hl.1,by omega⟩,ho,hh,j,by omega⟩
 ·exact {
   size:=E.size
   frame:=E.frame
   ld:=λb c j=>by
    split at j
    ·exact E.ld 0 c j
    simp_all
   fz:=E.fz
   ow:=E.ow
   qo:=E.qo
   keep:=λb ob j=>by
    match b with
    |0=>simp only[List.getElem?_cons_zero,au] at j;subst j;exact ⟨.cells garb,rfl,by grind [Ob.sz],λe=>by grind [Ob.sz]⟩
    |b+1=>grind
   out:=E.out }
section
variable{α:Type}{f:α->List C}{es:Nat}
end
end
end Go.Abs
end
section
namespace Go.Abs
noncomputable section
variable[Gl][Y:Ty]
def Ei{T:Type}(st:T->Int)(met:T->Option Bool):List T->Option (List T)
 |[]=>some []
 |a::r=>if (st a == 1)=true then (met a).bind λb=>(Ei st met r).bind λq=>some (if b=true then a::q else q) else Ei st met r
section
variable{P:Program}{c:Code}{a b:aR}
theorem wG(h:bM P c=some (.seq a b)):∃c1 d,c=.seq c1 d/\bM P c1=some a/\bM P d=some b:=by
 cases c with
 |seq c1 d=>
  simp only[bM] at h;split at h
  ·rename_i x y m p;simp only[au,aR.seq.injEq] at h;obtain ⟨rfl,rfl⟩:=h;exact ⟨c1,d,rfl,m,p⟩
  ·simp at h
 |region id ops j=>
  simp only[bM] at h;split at h
  ·cases j with
   |false=>simp at h
   |true=>simp only[if_true] at h;split at h <;> simp at h
  ·simp at h
 |cond o c1 d=>simp only[bM] at h;split at h <;> simp at h
 |scope b=>simp only[bM,cE] at h;obtain ⟨q,_,k⟩:=h;rcases KT q with ⟨l,r,_,e⟩ | e <;> rw[e] at k <;> simp at k
 |rangeFunc g s x y=>rcases eE h with ⟨_,_,_,_,_,_,_,e⟩ | e <;> cases e
 |_=>simp[bM] at h
theorem inv_reg{os:List aH}(h:bM P c=some (.Dc os)):∃id ops,c=.region id ops false/\ops.toList.mapM (bx P ops)=some os:=by
 cases c with
 |region id ops d=>
  simp only[bM] at h;split at h
  ·rename_i k m;cases d with
   |false=>simp only[b_,cw,au,aR.Dc.injEq] at h;subst h;exact ⟨id,ops,rfl,m⟩
   |true=>simp only[if_true] at h;split at h <;> simp at h
  ·simp at h
 |seq c1 p=>simp only[bM] at h;split at h <;> simp at h
 |cond o c1 p=>simp only[bM] at h;split at h <;> simp at h
 |scope b=>simp only[bM,cE] at h;obtain ⟨q,_,j⟩:=h;rcases KT q with ⟨l,r,_,e⟩ | e <;> rw[e] at j <;> simp at j
 |rangeFunc g s x y=>rcases eE h with ⟨_,_,_,_,_,_,_,e⟩ | e <;> cases e
 |_=>simp[bM] at h
theorem LN{o:aP}(h:bM P c=some (.cond o a b)):∃x c1 d,c=.cond x c1 d/\bW x=some o/\bM P c1=some a/\bM P d=some b:=by
 cases c with
 |cond x c1 d=>
  simp only[bM] at h;split at h
  ·rename_i t u v m p q;simp only[au,aR.cond.injEq] at h;obtain ⟨rfl,rfl,rfl⟩:=h;exact ⟨x,c1,d,rfl,m,p,q⟩
  ·simp at h
 |region id ops j=>
  simp only[bM] at h;split at h
  ·cases j with
   |false=>simp at h
   |true=>simp only[if_true] at h;split at h <;> simp at h
  ·simp at h
 |seq c1 d=>simp only[bM] at h;split at h <;> simp at h
 |scope b=>simp only[bM,cE] at h;obtain ⟨s,_,k⟩:=h;rcases KT s with ⟨l,r,_,e⟩ | e <;> rw[e] at k <;> simp at k
 |rangeFunc g A x y=>rcases eE h with ⟨_,_,_,_,_,_,_,e⟩ | e <;> cases e
 |_=>simp[bM] at h
theorem Hy{id:Nat}(h:bM P c=some (.block id a)):∃i c1,c=.block i c1/\2 * i=id/\bM P c1=some a:=by
 cases c with
 |block i c1=>simp only[bM,cE,aR.block.injEq] at h;obtain ⟨j,m,p,rfl⟩:=h;exact ⟨i,c1,rfl,p,m⟩
 |region id ops d=>
  simp only[bM] at h;split at h
  ·cases d with
   |false=>simp at h
   |true=>simp only[if_true] at h;split at h <;> simp at h
  ·simp at h
 |seq c1 q=>simp only[bM] at h;split at h <;> simp at h
 |cond o c1 q=>simp only[bM] at h;split at h <;> simp at h
 |scope b=>simp only[bM,cE] at h;obtain ⟨j,_,k⟩:=h;rcases KT j with ⟨l,r,_,e⟩ | e <;> rw[e] at k <;> simp at k
 |rangeFunc g s x y=>rcases eE h with ⟨_,_,_,_,_,_,_,e⟩ | e <;> cases e
 |_=>simp[bM] at h
theorem Xe(h:bM P c=some (.loop a)):∃c1,c=.loop c1/\bM P c1=some a:=by
 cases c with
 |loop c1=>simp only[bM,cE,aR.loop.injEq] at h;obtain ⟨j,m,rfl⟩:=h;exact ⟨c1,rfl,m⟩
 |region id ops d=>
  simp only[bM] at h;split at h
  ·cases d with
   |false=>simp at h
   |true=>simp only[if_true] at h;split at h <;> simp at h
  ·simp at h
 |seq c1 p=>simp only[bM] at h;split at h <;> simp at h
 |cond o c1 p=>simp only[bM] at h;split at h <;> simp at h
 |scope b=>simp only[bM,cE] at h;obtain ⟨j,_,k⟩:=h;rcases KT j with ⟨l,r,_,e⟩ | e <;> rw[e] at k <;> simp at k
 |rangeFunc g q x y=>rcases eE h with ⟨_,_,_,_,_,_,_,e⟩ | e <;> cases e
 |_=>simp[bM] at h
end
section
variable{P:Program}{ops:Array Oper}{Q:Exit->Act->World->Prop}{a:Act}{w:World}{n:Nat}{al:AL}{σ:ar}{M:Nat->Option Nat}{Fz:Nat->Prop}
theorem op_wide{o:Oper}{K:Act->World->Prop}(hd:∀c,o.op≠.defer c)(h:o.wp P a w K Q):o.wpIn Fence.wide 0 P a w K Q:=by
 refine ⟨λf _=>trivial,?_⟩;rw[Oper.semAt_eq _ _ _ hd];unfold Oper.wp at h;generalize (execOp a.eval o).run P w=r at *;cases r with
 |ok j g=>
  cases j with
  |value v=>exact h
  |skip=>exact h
  |defer d=>exact h
  |enter f args=>exact ⟨λe=>by simp[Fence.wide] at e,callsIn_wide.2 h⟩
  |row row args=>exact ⟨λe=>by simp[Fence.wide] at e,λc k _=>let ⟨v,g,r,s⟩:=h c k;⟨v,g,r,stepsIn_wide.2 s⟩⟩
  |_=>exact h.elim
 |halt e g=>cases e <;> first | exact h | exact h.elim
theorem Vg{i:Nat}{K:Act->World->Prop}(hd:∀(i:Nat) o c,ops[i]? = some o->o.op≠.defer c)(g:¬LetsOut Q)(h:wpOp P ops Q i K a w):wpOpIn Fence.wide 0 P ops Q i K a w:=by
 unfold wpOp at h;unfold wpOpIn;split at h
 ·simp_all
 ·rename_i o e;simp only[e];split at h
  ·rename_i d;simp only[d,if_true]
   grind [op_wide]
  ·rename_i d;simp only[d,b_,cw];exact ⟨λf _=>trivial,h⟩
theorem Ys{orc:gz}(O:ou P orc)(hd:∀(i:Nat) o c,ops[i]? = some o->o.op≠.defer c)(u:¬LetsOut Q){g:List Nat}:∀(os:List aH)(k:Nat)(σ σ':ar)(M:Nat->Option Nat)(Fz:Nat->Prop)(w:World)(e d:List D)(a:Act)(wr:List Nat),
  (∀j ao,os[j]? = some ao->∃o,ops[k+j]? = some o/\bx P ops o=some ao)->Rel σ M Fz w->dB σ M Fz w e a.tmps->py P orc os e σ=some (d,σ',wr) ->
  (∀v q x p,v.defers=a.defers->Rel σ' x p q->dB σ' x p q d v.tmps->bH σ M Fz w σ' x p q->σ.length<=σ'.length->wpOpsIn Fence.wide 0 P ops Q g v q) ->
  wpOpsIn Fence.wide 0 P ops Q (List.range' k os.length++g) a w:=by
 intro os;induction os with
 |nil=>intro k σ σ' M Fz w e d a wr _ R E h u;simp only[py,au,aX] at h;obtain ⟨rfl,rfl,_⟩:=h;exact u a w M Fz rfl R E (bH.refl R) (cX _)
 |cons ao os ih=>
  intro k σ σ' M Fz w e d a wr m R E h U;simp only[py] at h;split at h
  ·rename_i r σ1 w1 X;split at h
   ·rename_i s Z w2 h2;simp only[au,aX] at h;obtain ⟨rfl,rfl,_⟩:=h;obtain ⟨o,ho,y⟩:=m 0 ao (by simp);simp only[List.length_cons,List.range'_succ,List.cons_append];rw[wpOpsIn_cons];refine Vg hd u (JU O R E (by omega) y X _ λa1 q M1 A aa R1 E1 G t=>?_);refine ih (k+1) σ1 Z M1 A q r s a1 w2 (λj K hj=>?_) R1 E1 h2 λa2 L M2 N ab R2 E2 S T=>?_
    ·obtain ⟨o',ad,af⟩:=m (j+1) K (by simp_all)
     grind
    ·exact U a2 L M2 N (by simp_all) R2 E2 (G.trans S t) (lK t T)
   simp_all
  simp_all
theorem eO{orc:gz}(O:ou P orc)(hd:∀(i:Nat) o c,ops[i]? = some o->o.op≠.defer c)(t:¬LetsOut Q){e:List Nat}{os:List aH}{k:Nat}(m:∀j ao,os[j]? = some ao->∃o,ops[k+j]? = some o/\bx P ops o=some ao)
  (h:cn P orc 0 os n al σ λp σ' _=>∀q g r d,q.defers=a.defers->Rel σ' r d g->eU n σ' r d g p q.tmps->bH σ M Fz w σ' r d g->wpOpsIn Fence.wide 0 P ops Q e q g)
  (R:Rel σ M Fz w) (A:eU n σ M Fz w al a.tmps):wpOpsIn Fence.wide 0 P ops Q (List.range' k os.length++e) a w:=by
 obtain ⟨p,σ',N,u,v⟩:=h;obtain ⟨x,y,E⟩:=u _ A.dk.2;exact Ys O hd t os k σ σ' M Fz w _ x a _ m R A.dk.1 (Nh _ _ _ _ _ _ y) λq g r d s G K L S=>v q g r d s G (eU.aad K E) L
theorem mapM_at{os:List aH}(h:ops.toList.mapM (bx P ops)=some os):os.length=ops.size/\∀(j:Nat) ao,os[j]? = some ao->∃o,ops[j]? = some o/\bx P ops o=some ao:=by
 obtain ⟨d,e⟩:=Mt h
 simp_all
theorem zz{cs:List D}{m:Nat}(h:cs.length=m):uq (some m) cs 0=some (.agg cs):=by
 simp only[uq]
 grind
theorem xM.step{B:Nat}{J:(Nat->Prop)->(Nat->Prop)->World->Prop}(h:xM B J){σ σ':ar}{M s:Nat->Option Nat}{F F' U:Nat->Prop}{W W':World}(u:J F U W)(G:∀b c,M b=some c->¬U c/\B<=c)(E:bH σ M F W σ' s F' W')(x:Rel σ' s F' W') :
  J F' (λc=>U c∨F' c) W'/\∀b c,s b=some c->¬(U c∨F' c)/\B<=c:=by
 have A:=h.lt F U W u;have K:=h.le F U W u;refine ⟨h.grow F U W' F' (h.off F U W W' u E.size (λc j=>E.frame c (j.elim (A c) (by omega)) λb o=>?_) E.out) (λc j=>(E.fz c j).1) λc j=>?_,λb c o=>?_⟩
 ·grind
 ·rcases E.ow c j with O | ⟨b,o⟩ | O
  ·simp_all
  ·exact .inr ⟨(G b c o).1,(G b c o).2,x.fz c j⟩
  ·exact .inr ⟨λX=>by grind,by omega,x.fz c j⟩
 ·have Z:=(x.blk b c o).1;rcases E.ld b c o with ⟨b0,R⟩ | R
  ·grind
  grind
theorem eU.data{o:AL}{j:Array Value}(h:eU n σ M Fz w al j)(hs:∀t d,lk t o=some d->lk t al=some d/\d.low 0=true):eU n [] (λ_=>none) Fz w o j:=
 ⟨h.1,λt d s=>let ⟨h1,h2⟩:=hs t d s;let ⟨v,h3,h4⟩:=h.2 t d h1;⟨v,h3,h4.data h2 _ _⟩⟩
theorem Iy{h:List Nat}{i d t:Nat}{o:Oper}{g:Option (Nat×Bool)}{r:List D}{c:Nat}{x:C}{arr:Array Value}{T:TypeId}(ho:ops[i]? = some o)(q:bx P ops o=some ⟨some d,.load none (.t t),g⟩)(K:Gl.ok Fz w)(E:dB σ M Fz w r a.tmps)(hw:gS r g=some true)
  (S:a.tmps[t]? = some (.pointer (some ⟨c,0,none⟩))) (hh:w.heap[c]? = some (.cells arr T (0,0))) (hl:1<=arr.size) (U:∀u,arr[0]? = some u->VC Fz w x u/\u.oneCell'=true)
  (hK:∀v,VC Fz w x v->wpOpsIn Fence.wide 0 P ops Q h (a.put (some d) v) w):wpOpsIn Fence.wide 0 P ops Q (i::h) a w:=by
 unfold bx at q;split at q
 ·rename_i g' ao hg s;simp only[au,aH.mk.injEq] at q;obtain ⟨X,rfl,rfl⟩:=q;have L:=zy s;rcases ur s with ⟨f,args,aa,of,os,_,_,_,e⟩ | ⟨h0,N,_⟩
  ·simp at e
  have m:=oT E hg hw;rw[wpOpsIn_cons];unfold wpOpIn;rw[ho];simp only[m,if_true];have ht:t<a.tmps.size:=(Cy.1 S).1;have E1:dB [.cells [.c x]] (λb=>if b=0 then some c else none) Fz w ((List.replicate a.tmps.size D.any).set t (.ptr 0 0 1)) a.tmps:=by
   refine ⟨by simp,λj d v k p=>?_⟩;rw[yBC] at k;split at k
   ·rename_i e;subst e;split at k
    ·simp only[au] at k;subst k;rw[S] at p;simp only[au] at p;subst p;exact .ptr _ (.cells [.c x]) rfl (cX _) λ_=>⟨c,rfl,rfl⟩
    simp_all
   ·have:d=.any:=by
     grind
    subst this;exact .any v
  have O:bm P (λ_ _ _=>none) (.load none (.t t)) ((List.replicate a.tmps.size D.any).set t (.ptr 0 0 1)) [.cells [.c x]]=some (.c x,[.cells [.c x]],[]):=by
   have:aP.ev ((List.replicate a.tmps.size D.any).set t (.ptr 0 0 1)) (.t t)=.ptr 0 0 1:=by grind [aP.ev]
   simp only[bm,this];rfl
  have A:∃v,(execOp a.eval o).run P w=.ok (.value v) w/\VC Fz w x v:=by
   cases EN (M:=λb=>if b=0 then some c else none) (Fz:=Fz) (w:=w) K E1 h0 N O with
   |y q _=>grind [cat]
   |l _ _ hy=>
    obtain ⟨v,k,p⟩:=hy λb off sz c' cs hb Z G=>by
     have R:b=0:=by simp_all
     subst R;simp only[if_true,au] at Z;subst Z;simp only[List.getElem?_cons_zero,au,Ob.cells.injEq] at G;subst G;refine ⟨arr,T,hh,by omega,λj d u k p=>?_⟩;have hj:j=0:=by grind
     subst hj;simp only[List.getElem?_cons_zero,au] at k;subst k;exact ⟨.c (U u p).1,(U u p).2⟩
    grind [V.qC]
   |g q _=>grind [cat]
  obtain ⟨v,hr,hV⟩:=A;refine ⟨λf _=>trivial,?_⟩;rw[Oper.semAt_eq _ _ _ L,hr];show wpOpsIn Fence.wide 0 P ops Q h (a.put o.dst v) w
  simp_all
 simp_all
theorem Qa{m:List Nat}{i d f t l:Nat}{o:Oper}{g:Option (Nat×Bool)}{q:List D}{v:Value}{R:Ending->World->Prop}(X:ops[i]? = some o)(u:bx P ops o=some ⟨some d,.call (.t f) [.t t],g⟩)(E:dB σ M Fz w q a.tmps)(Z:gS q g=some true)
  (hf:a.tmps[f]? = some (.func (.yield l) #[] #[])) (ht:a.tmps[t]? = some v) (hy:YieldAt Fence.wide 0 P l #[v] w R)
  (hK:∀e A,R e A->∃b,e=.returned b/\wpOpsIn Fence.wide 0 P ops Q m (a.put (some d) b) A):wpOpsIn Fence.wide 0 P ops Q (i::m) a w:=by
 unfold bx at u;split at u
 ·rename_i g' ao hg G;simp only[au,aH.mk.injEq] at u;obtain ⟨O,rfl,rfl⟩:=u;have tm:∀(x:Operand)(t:Nat),bW x=some (.t t)->x=.tmp t:=λx t S=>by
   cases x <;> simp[bW] at S
   rw[S]
  rcases ur G with ⟨f',args,aa,of,os,ab,h1,h2,e⟩ | ⟨_,K,_⟩
  ·simp only[lm.call.injEq] at e;obtain ⟨rfl,rfl⟩:=e;have L:=tm f' f h1;subst L;have N:args.map a.eval=#[v]:=by
    obtain ⟨l1,l2⟩:=Mt (show args.toList.mapM bW=some [.t t] from h2);have hl:args.size=1:=by simp_all
    have T:args=#[.tmp t]:=by
     apply Array.ext
     ·omega
     ·intro j ad af;have hj:j=0:=by omega
      subst hj;obtain ⟨y,ak,an⟩:=l2 0 (.t t) rfl
      grind
    rw[T];simp[Act.eval,ht]
   have p:=oT E hg Z;rw[wpOpsIn_cons];unfold wpOpIn;rw[X];simp only[p,if_true];obtain ⟨fn,r,h,s,U,k⟩:=hy;have av:a.eval (.tmp f)=.func (.yield l) #[] #[]:=by simp[Act.eval,hf]
   have hr:(execOp a.eval o).run P w=.ok (.round l fn r h s) w:=by grind [Go.execOp,Go.resolve,Go.Deferred.ofValue,Go.invoke]
   refine ⟨λf _=>trivial,?_⟩;rw[Oper.semAt_eq _ _ _ (by grind),hr,Oper.uponIn_round];refine ⟨λhh=>by simp[Fence.wide] at hh,k.mono λe A T=>?_⟩
   grind
  grind [Bu]
 simp_all
theorem mV{c:Code}{os:List aH}(k:bM P c=some (.Dc os))(h:∀ops:Array Oper,ops.size=os.length->(∀(j:Nat) ao,os[j]? = some ao->∃o,ops[j]? = some o/\bx P ops o=some ao)->(∀(i:Nat) o c,ops[i]? = some o->o.op≠.defer c) ->
  wpOpsIn Fence.wide 0 P ops (mX Q) (List.range os.length) a w):c.wpIn Fence.wide 0 P Q a w:=by
 obtain ⟨id,ops,rfl,m⟩:=inv_reg k;obtain ⟨e,g⟩:=mapM_at m;refine wpIn_mono (Q:=mX Q) (wpIn_region ?_) λ_ _ _ h=>h.1;rw[<-e];refine h ops e.symm g λj o c p=>?_;have d:j<os.length:=by grind
 obtain ⟨q,r,s⟩:=g j _ (eS d)
 grind [qL]
end
end
end Go.Abs
end
section
namespace Go.Abs
noncomputable section
variable[Gl][Y:Ty]
def able2(es:Nat)(z:List D):List aH:=[⟨some 9,.idx es none (.t 5) (.t 7),none⟩,⟨some 10,.load (some es) (.t 9),none⟩,⟨some 4,.alloc z,none⟩,⟨none,.store es (.t 4) (.t 10),none⟩]
def JE(es so ti tb:Nat):List aH:=[⟨some 11,.Ik so (.t 4),none⟩,⟨some 12,.load none (.t 11),none⟩,⟨some 13,.gen (.binOp .eql ti (.tmp 12) (.const (.int .i64 1)) ti) tb,none⟩,⟨some 14,.Ba (.t 13),none⟩,⟨some 15,.load (some es) (.t 4),some (14,true)⟩]
def Zg:aH:=⟨some 16,.load none (.t 1),some (14,true)⟩
def Jt(gm:Nat):List aH:=[⟨some 17,.call (.k (.c (.fn (.func gm) [] []))) [(.t 15),(.t 16)],some (14,true)⟩,⟨some 18,.pick (.t 14) (.t 17) (.k (.c (.lit (.bool false)))),none⟩,⟨some 19,.Ba (.t 18),none⟩]
def BH(es:Nat):List aH:=[⟨some 20,.Ba (.t 0),some (19,true)⟩,⟨some 21,.load (some es) (.t 4),some (19,true)⟩]
def QC:aH:=⟨some 22,.call (.t 20) [(.t 21)],some (19,true)⟩
def zn(tb:Nat):List aH:=[⟨some 23,.gen (.unOp .not tb (.tmp 22)) tb,some (19,true)⟩,⟨some 24,.pick (.t 19) (.t 23) (.k (.c (.lit (.bool false)))),none⟩]
def XU(es so ti tb gm:Nat):List aH:=JE es so ti tb++(Zg::(Jt gm++(BH es++(QC::zn tb))))
def Ye(ti:Nat):List aH:=[⟨some 8,.gen (.binOp .lss ti (.tmp 7) (.tmp 6) ti) 0,none⟩]
def able4(ti:Nat):List aH:=[⟨some 25,.gen (.binOp .add ti (.tmp 7) (.const (.int .i64 1)) ti) ti,none⟩,⟨some 7,.Ba (.t 25),none⟩]
def able0:List aH:=[⟨some 5,.load none (.t 1),none⟩,⟨some 6,.len (.t 5),none⟩,⟨some 7,.Ba (.k (.c (.lit (.int .i64 0)))),none⟩]
def ableL(es so ti tb gm:Nat)(z:List D):aR:=.seq (.Dc (Ye ti)) (.seq (.cond (.t 8) .skip (.exit 0)) (.seq (.block 2 (.seq (.Dc (able2 es z)) (.seq (.Dc (XU es so ti tb gm)) (.cond (.t 24) .ret .skip)))) (.Dc (able4 ti))))
def ableA(es so ti tb gm:Nat)(z:List D):lh:=⟨2,26,[],.seq (.Dc able0) (.block 0 (.loop (ableL es so ti tb gm z))),true⟩
section
variable{P:Program}{n:Nat}{al:AL}{σ:ar}{M:Nat->Option Nat}{F F':Nat->Prop}{W W':World}
theorem eU.put{a:Act}{t:Nat}{d:D}{v:Value}(A:eU n σ M F W al a.tmps)(o:t<n)(u:V σ M F W d v):eU n σ M F W ((t,d)::al) (a.put (some t) v).tmps:=by
 refine ⟨by simp[Act.put,A.1],λs e hs=>?_⟩;simp only[lk] at hs;simp only[Act.put];split at hs
 ·rename_i j;have:=cY j;subst this;simp only[au] at hs;subst hs;refine ⟨v,?_,u⟩;rw[yAQ,if_pos rfl,if_pos (by rw[A.1];exact o)]
 ·rename_i j;obtain ⟨x,E,G⟩:=A.2 s e hs;refine ⟨x,?_,G⟩;rw[yAQ,if_neg (λe=>by simp_all)];exact E
theorem eU.dataF {j:Array Value} (A:eU n σ M F W al j) (s:∀t d,lk t al=some d→∃x,d=.c x) (u:∀c:Nat,F c→F' c∧W'.heap[c]? = W.heap[c]?):eU n [] (fun _=>none) F' W' al j:=
 ⟨A.1,fun t d o=>by
  obtain ⟨v,E,G⟩:=A.2 t d o
  obtain ⟨x,rfl⟩:=s t d o
  exact ⟨v,E,.c (G.qC.mono u)⟩⟩
theorem eU.lks{o:AL}{j:Array Value}(A:eU n σ M F W al j)(hs:∀t d,lk t o=some d->lk t al=some d):eU n σ M F W o j:=⟨A.1,λt d s=>A.2 t d (hs t d s)⟩
theorem BV{ops:Array Oper}{d os:List aH}{k:Nat}(h:∀(j:Nat) ao,d[j]? = some ao->∃o,ops[j]? = some o/\bx P ops o=some ao)(e:∀j,j<os.length->d[k+j]? = os[j]?):∀j ao,os[j]? = some ao->∃o,ops[k+j]? = some o/\bx P ops o=some ao:=
 λj ao g=>h (k+j) ao (by grind)
def nq(i:Nat)(l:List (TT i))(d pv:Value)(k:Int):AL:=[(7,I k),(6,I l.length),(5,.c (.cJ false (l.map (enc i)))),(0,.c (.lit d)),(1,.c (.lit pv))]
theorem ableH_c{i:Nat}{l:List (TT i)}{e pv:Value}{k:Int}:∀t d,lk t (nq i l e pv k)=some d->∃x,d=.c x:=by
 intro t d h;have:=mO h;simp only[nq,gq,KY,KU,aX] at this
 grind
theorem SD(c:CC)(a:c.dn):DE c (rT c a)=some a:=by
 cases c with
 |int k=>simp only[rT,DE];split <;> first | rfl | grind
 |bool=>rfl
 |str=>rfl
 |sl j=>simp only[rT,DE,fA];split <;> first | rfl | omega
 |fk d=>rfl
theorem rdT_exp:∀(cs:List CC)(x:aS cs),Fp cs (uO cs x)=some x:=by
 intro cs;induction cs with
 |nil=>intro x;rfl
 |cons c cs ih=>grind [uO,Fp,SD]
theorem enc_nrm(i:Nat)(a:TT i)(l:List (TT i)):([ST (enc i a),.c (.cJ false (l.map (enc i)))]:List D).map CJ=[ST (enc i a),.c (.cJ false (l.map (enc i)))]/\(([ST (enc i a),.c (.cJ false (l.map (enc i)))]:List D).all λd=>d.low 0&&d.plain)=true:=by
 have h:zp [.st i,.c (.sl i)] (tvV [.st i,.c (.sl i)] (a,l,()))=some (a,l,()):=by
  have e:ry (.st i) (dm.tv (.st i) a)=some a:=by
   show CZ i (.agg (exp i a))=some a
   grind [CZ,exp,rdT_exp,Ty.mp]
  have g:ry (.c (.sl i)) (dm.tv (.c (.sl i)) l)=some l:=SD (.sl i) l
  grind [tvV,zp]
 exact Sf h (.cons (dm.ET (.st i) a) (.cons (dm.ET (.c (.sl i)) l) .nil))
end
section
variable{P:Program}{i so ti tb gm:Nat}{z:List D}{st:TT i->Int}{metf:TT i->List (TT i)->Option Bool}
def SI(gm:Nat)(ds:List D)(b:Bool):ye:=open Classical in [(gm,λd=>if d=ds then some (B b) else none)]
theorem Wl{ds:List D}{b:Bool}(h:Pure P gm ds (B b)):ou P (λ_=>Dn (SI gm ds b)):=λ_=>nE λp e d r g=>by grind [SI]
variable{B:Nat}{lb:Array Value}{J:Nat->(Nat->Prop)->(Nat->Prop)->World->Prop}{Jx:(Nat->Prop)->(Nat->Prop)->World->Prop}{l:List (TT i)}{items:List (List D)}{ly:Nat}{pv:Value}
def ableEnd(B:Nat)(J:Nat->(Nat->Prop)->(Nat->Prop)->World->Prop)(Jx:(Nat->Prop)->(Nat->Prop)->World->Prop)(H:AL)(it:Nat)(g:Exit->Act->World->Prop):Prop:=
 ∀F' e W' d (b:Bool),d.defers=[]->eU 26 [] (λ_=>none) F' W' ((24,Abs.B b)::H) d.tmps->((b=false/\J it F' e W')∨(b=true/\Jx F' e W'))->g .normal d W'
theorem able_r3 (dE:P.follows .mixedOrders=true) (b4:∀a,(enc i a)[so]? = some (.lit (.int .i64 (st a))))
  (ad:∀x:Int,gT P .eql ti (.tmp 12) (.const (.int .i64 1)) (.int .i64 x) (.int .i64 1)=some (.bool (x == 1))) (af:∀b:Bool,fE P (Op.unary .not (.bool b))=some (.bool (!b)))
  (hm:bL P gm ⟨[.st i,.c (.sl i)],[.c .bool],fun a=>metf a.1 a.2.1⟩)
  (hJ:∀k,xM B (J k)) (be:xM B Jx) (ak:∀k F U W,J k F U W→Caps F W [[.cJ false (l.map (enc i))]] lb) (bh:lb[0]? = some pv)
  (y:∀k ds F U W vs,items[k]? = some ds→J k F U W→Vals F W ds vs →
   YieldAt Fence.wide 0 P ly vs W fun e W'=>∃F' E,Kept F U W F' E W'∧((e=.returned (.bool true)∧J (k+1) F' E W')∨(e=.returned (.bool false)∧Jx F' E W')))
  {c3:Code} (an:bM P c3=some (.Dc (XU (aw i) so ti tb gm))) {a:TT i} {k:Int} {it:Nat} {F U:Nat→Prop} {W:World} {M:Nat→Option Nat} {s:Act} {Qy:Exit→Act→World→Prop}
  (R:Rel [.cells ((enc i a).map .c)] M F W) (A:eU 26 [.cells ((enc i a).map .c)] M F W ((4,.ptr 0 0 (aw i))::nq i l (.func (.yield ly) #[] #[]) pv k) s.tmps) (b5:s.defers=[]) (r:J it F U W) (hO:∀b c,M b=some c→¬U c∧B≤c)
  (av:st a=1→∃b,metf a l=some b∧(b=true→items[it]? = some [ST (enc i a)]))
  (hK:∀b,(st a=1→metf a l=some b)→(st a≠1→b=false)→ableEnd B J Jx (nq i l (.func (.yield ly) #[] #[]) pv k) (if b=true then it+1 else it) Qy):c3.wpIn Fence.wide 0 P Qy s W:=by
 have L:((enc i a).map D.c).length=aw i:=by rw [wj,sE]
 have o:od [Ob.cells ((enc i a).map D.c)] 0 (aw i)=some ((enc i a).map D.c):=Pc rfl L
 have N:uq none ((enc i a).map D.c) (0+so)=some (I (st a)):=by
  show ((enc i a).map D.c)[0+so]? = _
  simp_all
 have S:uq (some (aw i)) ((enc i a).map D.c) 0=some (ST (enc i a)):=zz L
 by_cases h1:st a=1
 ·obtain ⟨b,hb,OM⟩:=av h1
  obtain ⟨bi,bk⟩:=enc_nrm i a l
  have O:=Wl (P:=P) (gm:=gm) (ds:=[ST (enc i a),.c (.cJ false (l.map (enc i)))]) (b:=b) (hm (a,l,()) b hb)
  have aa:Dn (SI gm [ST (enc i a),.c (.cJ false (l.map (enc i)))] b) gm [ST (enc i a),.c (.cJ false (l.map (enc i)))] [Ob.cells ((enc i a).map D.c)]=some (Abs.B b,[Ob.cells ((enc i a).map D.c)],[]):=
   AN (F:=fun bl=>open Classical in if bl=[ST (enc i a),.c (.cJ false (l.map (enc i)))] then some (Abs.B b) else none) (by simp [SI,VY]) bk bi (by simp) rfl
  refine mV an fun ops hs g m=>?_
  show wpOpsIn Fence.wide 0 P ops (mX Qy) (List.range' 0 (JE (aw i) so ti tb).length++(5::(List.range' 6 (Jt gm).length++(List.range' 9 (BH (aw i)).length++(11::(List.range' 12 (zn tb).length++[])))))) s W
  refine eO O m Vj (BV g fun j r=>?_) ?_ R A
  ·have:j=0∨j=1∨j=2∨j=3∨j=4:=by simp [JE] at r; omega
   rcases this with rfl | rfl | rfl | rfl | rfl <;> rfl
  unfold JE
  refine cn.op (Kw rfl) iA rfl (cn.op (rU rfl o N) iA rfl (cn.op (dS (v:=.bool (st a == 1)) rfl rfl rfl rfl (ad _) rfl) iA rfl (cn.op (AD rfl) iA rfl (cn.op (rU rfl o S) (ig rfl (by simp [h1])) rfl (cn.nil ?_)))))
  intro a1 W1 M1 F1 b6 R1 A1 E1
  obtain ⟨j1,o1⟩:=(hJ it).step r hO E1 R1
  obtain ⟨c,rfl,b7,T,hh,hl,hx⟩:=(ak it _ _ _ j1).2 0 _ pv rfl bh
  obtain ⟨o5,bt,bu⟩:=g 5 Zg rfl
  obtain ⟨v1,bv,bw⟩:=A1.2 1 _ rfl
  have:=bw.cj
  subst this
  refine Iy bt bu R1.gl A1.dk.1 (ig rfl (by simp [h1]) 26 _ A1.dk.2) bv hh (by omega) (fun u hu=>hx 0 _ u rfl hu) fun v hv=>?_
  have A2:=A1.put (t:=16) (d:=.c (.cJ false (l.map (enc i)))) (by omega) (.c hv)
  refine eO O m Vj (BV g fun j r=>?_) ?_ R1 A2
  ·have:j=0∨j=1∨j=2:=by simp [Jt] at r; omega
   rcases this with rfl | rfl | rfl <;> rfl
  unfold Jt
  refine cn.op (Jv rfl rfl aa) (ig rfl (by simp [h1])) rfl (cn.op (vY rfl (by simp [h1]) rfl) iA rfl (cn.op (AD rfl) iA rfl (cn.nil ?_)))
  intro a3 W3 M3 F3 b0 R3 A3 E3
  obtain ⟨j3,o3⟩:=(hJ it).step j1 o1 E3 R3
  have b3:a3.defers=[]:=by rw [b0]; show a1.defers=[]; simp_all
  cases b with
  | false =>
   show wpOpsIn Fence.wide 0 P ops (mX Qy) (List.range' 9 (BH (aw i)++(QC::zn tb)).length++[]) a3 W3
   refine eO O m Vj (BV g fun j r=>?_) ?_ R3 A3
   ·have:j=0∨j=1∨j=2∨j=3∨j=4:=by simp [BH,zn] at r; omega
    rcases this with rfl | rfl | rfl | rfl | rfl <;> rfl
   refine cn.no (Qf rfl rfl) rfl (cn.no (Qf rfl rfl) rfl (cn.no (Qf rfl rfl) rfl (cn.no (Qf rfl rfl) rfl (cn.op (qV rfl rfl rfl) iA rfl (cn.nil ?_)))))
   intro a4 W4 M4 F4 ax R4 G E4
   obtain ⟨j4,_⟩:=(hJ it).step j3 o3 E4 R4
   refine ⟨hK false (fun _=>hb) (fun _=>rfl) F4 _ W4 a4 false (by simp_all) (G.data fun t d K=>?_) (.inl ⟨rfl,j4⟩),by simp⟩
   have:=mO K
   simp only [nq,gq,KY,KU,aX] at this
   rcases this with ⟨rfl,rfl⟩ | ⟨rfl,rfl⟩ | ⟨rfl,rfl⟩ | ⟨rfl,rfl⟩ | ⟨rfl,rfl⟩ | ⟨rfl,rfl⟩ <;> exact ⟨rfl,rfl⟩
  | true =>
   refine eO O m Vj (BV g fun j r=>?_) ?_ R3 A3
   ·have:j=0∨j=1:=by simp [BH] at r; omega
    rcases this with rfl | rfl <;> rfl
   unfold BH
   refine cn.op (AD rfl) (ig rfl rfl) rfl (cn.op (rU rfl o S) (ig rfl rfl) rfl (cn.nil ?_))
   intro a4 W4 M4 F4 ax R4 G E4
   obtain ⟨j4,o4⟩:=(hJ it).step j3 o3 E4 R4
   obtain ⟨b8,a0,a2⟩:=g 11 QC rfl
   obtain ⟨b9,a5,a7⟩:=G.2 20 _ rfl
   have:=a7.cj
   subst this
   obtain ⟨a8,a9,bb⟩:=G.2 21 _ rfl
   refine Qa a0 a2 G.dk.1 (ig rfl rfl 26 _ G.dk.2) a5 a9 (y it _ F4 _ W4 #[a8] (OM rfl) j4 ⟨rfl,fun q d v g1 g2=>?_⟩) fun e w' he=>?_
   ·have hq:q=0:=by
     grind
    subst hq
    simp only [List.getElem?_cons_zero,au] at g1
    subst g1
    have g2:some a8=some v:=g2
    simp only [au] at g2
    subst g2
    exact bb.data (by grind) _ _
   ·obtain ⟨F5,U5,kp,b1⟩:=he
    have Z:∀(q:Bool) (X:(Nat→Prop)→(Nat→Prop)→World→Prop),xM B X→X F5 U5 w'→(∀F' E W',X F' E W'→((!q)=false∧J (it+1) F' E W')∨((!q)=true∧Jx F' E W'))→wpOpsIn Fence.wide 0 P ops (mX Qy) (List.range' 12 (zn tb).length++[]) (a4.put (some 22) (.bool q)) w':=by
     intro q X hX bc bd
     have A5:eU 26 [] (fun _=>none) F5 w' ((22,Abs.B q)::(19,Abs.B true)::nq i l (.func (.yield ly) #[] #[]) (.pointer (some ⟨c,0,none⟩)) k) (a4.put (some 22) (.bool q)).tmps:=by
      refine eU.put (eU.dataF (G.lks fun t d K=>?_) (fun t d K=>?_) kp.fz) (by omega) (.c (.lit _))
      ·have:=mO K
       simp only [nq,gq,KY,KU,aX] at this
       rcases this with ⟨rfl,rfl⟩ | ⟨rfl,rfl⟩ | ⟨rfl,rfl⟩ | ⟨rfl,rfl⟩ | ⟨rfl,rfl⟩ | ⟨rfl,rfl⟩ <;> rfl
      ·have:=mO K
       simp only [nq,gq,KY,KU,aX] at this
       grind
     refine eO O m Vj (BV g fun j r=>?_) ?_ (hX.rel _ _ _ bc) A5
     ·have:j=0∨j=1:=by simp [zn] at r; omega
      rcases this with rfl | rfl <;> rfl
     unfold zn
     refine cn.op (YZ (v:=.bool (!q)) rfl rfl (af q) rfl) (ig rfl rfl) rfl (cn.op (vY rfl rfl rfl) iA rfl (cn.nil ?_))
     intro a6 W6 M6 F6 b2 R6 A6 E6
     obtain ⟨j6,_⟩:=hX.step bc (fun b c h=>by simp at h) E6 R6
     refine ⟨hK true (fun _=>hb) (fun h=>absurd h1 h) F6 _ W6 a6 (!q) (by rw [b2]; show a4.defers=[]; simp_all) (A6.data fun t d K=>?_) (bd _ _ _ j6),by simp⟩
     have:=mO K
     simp only [nq,gq,KY,KU,aX] at this
     rcases this with ⟨rfl,rfl⟩ | ⟨rfl,rfl⟩ | ⟨rfl,rfl⟩ | ⟨rfl,rfl⟩ | ⟨rfl,rfl⟩ | ⟨rfl,rfl⟩ <;> exact ⟨rfl,rfl⟩
    rcases b1 with ⟨rfl,ab⟩ | ⟨rfl,ab⟩
    ·exact ⟨_,rfl,Z true (J (it+1)) (hJ _) ab fun F' E W' h=>.inl ⟨rfl,h⟩⟩
    ·exact ⟨_,rfl,Z false Jx be ab fun F' E W' h=>.inr ⟨rfl,h⟩⟩
 ·have hf:(st a == 1)=false:=by simp_all
  have O:ou P (fun _=>Dn []):=fun _=>nE fun p hp=>by grind
  refine mV an fun ops hs g m=>?_
  show wpOpsIn Fence.wide 0 P ops (mX Qy) (List.range' 0 (XU (aw i) so ti tb gm).length++[]) s W
  refine eO O m Vj (fun j ao r=>by simp_all) ?_ R A
  refine cn.op (Kw rfl) iA rfl (cn.op (rU rfl o N) iA rfl (cn.op (dS (v:=.bool (st a == 1)) rfl rfl rfl rfl (ad _) rfl) iA rfl (cn.op (AD rfl) iA rfl (cn.no (Qf rfl (by simp [hf])) rfl (cn.no (Qf rfl (by simp [hf])) rfl (cn.no (Qf rfl (by simp [hf])) rfl
   (cn.op (qV rfl hf rfl) iA rfl (cn.op (AD rfl) iA rfl (cn.no (Qf rfl rfl) rfl (cn.no (Qf rfl rfl) rfl (cn.no (Qf rfl rfl) rfl (cn.no (Qf rfl rfl) rfl (cn.op (qV rfl rfl rfl) iA rfl (cn.nil ?_))))))))))))))
  intro a4 W4 M4 F4 ax R4 G E4
  obtain ⟨j4,_⟩:=(hJ it).step r hO E4 R4
  refine ⟨hK false (fun h=>absurd h h1) (fun _=>rfl) F4 _ W4 a4 false (by simp_all) (G.data fun t d K=>?_) (.inl ⟨rfl,j4⟩),by simp⟩
  have:=mO K
  simp only [nq,gq,KY,KU,aX] at this
  rcases this with ⟨rfl,rfl⟩ | ⟨rfl,rfl⟩ | ⟨rfl,rfl⟩ | ⟨rfl,rfl⟩ | ⟨rfl,rfl⟩ | ⟨rfl,rfl⟩ <;> exact ⟨rfl,rfl⟩
end
end
end Go.Abs
end
section
namespace Go.Abs
noncomputable section
variable[Gl][Y:Ty]
section
variable{P:Program}{c:Code}
theorem Lx(h:bM P c=some .skip):c=.skip:=by
 cases c with
 |skip=>rfl
 |region id ops d=>
  simp only[bM] at h
  grind
 |seq c1 e=>grind [bM]
 |cond o c1 e=>grind [bM]
 |scope b=>grind [bM,Option.map_eq_some_iff,KT]
 |rangeFunc g j x y=>grind [eE]
 |_=>simp[bM] at h
theorem inv_ret(h:bM P c=some .ret):c=.ret:=by
 cases c with
 |ret=>rfl
 |region id ops d=>
  simp only[bM] at h;split at h
  ·cases d with
   |false=>simp at h
   |true=>simp only[if_true] at h;split at h <;> simp at h
  ·simp at h
 |seq c1 k=>simp only[bM] at h;split at h <;> simp at h
 |cond o c1 k=>simp only[bM] at h;split at h <;> simp at h
 |scope b=>simp only[bM,cE] at h;obtain ⟨m,_,j⟩:=h;rcases KT m with ⟨l,r,_,e⟩ | e <;> rw[e] at j <;> simp at j
 |rangeFunc g p x y=>rcases eE h with ⟨_,_,_,_,_,_,_,e⟩ | e <;> cases e
 |_=>simp[bM] at h
theorem aah{i:Nat}(h:bM P c=some (.exit (2 * i))):c=.exit i:=by
 cases c with
 |exit j=>simp only[bM,au,aR.exit.injEq] at h;rw[show j=i by omega]
 |goto j=>simp only[bM,au,aR.exit.injEq] at h;omega
 |region id ops d=>
  simp only[bM] at h;split at h
  ·cases d with
   |false=>simp at h
   |true=>simp only[if_true] at h;split at h <;> simp at h
  ·simp at h
 |seq c1 m=>simp only[bM] at h;split at h <;> simp at h
 |cond o c1 m=>simp only[bM] at h;split at h <;> simp at h
 |scope b=>simp only[bM,cE] at h;obtain ⟨p,_,k⟩:=h;rcases KT p with ⟨l,r,_,e⟩ | e <;> rw[e] at k <;> simp at k
 |rangeFunc g q x y=>rcases eE h with ⟨_,_,_,_,_,_,_,e⟩ | e <;> cases e
 |_=>simp[bM] at h
end
section
variable{P:Program}{i so ti tb gm:Nat}{z:List D}{st:TT i->Int}{metf:TT i->List (TT i)->Option Bool}
variable{B:Nat}{lb:Array Value}{J:Nat->(Nat->Prop)->(Nat->Prop)->World->Prop}{Jx:(Nat->Prop)->(Nat->Prop)->World->Prop}{l:List (TT i)}{ly:Nat}{pv:Value}
theorem Mb:∀(cs:List CC)(x:aS cs),(uO cs x).all TC.scalar=true:=by
 intro cs;induction cs with
 |nil=>intro x;rfl
 |cons c cs ih=>intro x;simp only[uO,List.all_cons,ih,Np];cases c <;> rfl
def DG(J:Nat->(Nat->Prop)->(Nat->Prop)->World->Prop)(Jx:(Nat->Prop)->(Nat->Prop)->World->Prop)(m:Nat):Exit->Act->World->Prop:=λe a W=>(e=.normal∨e=.ret)/\a.defers=[]/\∃F U,J m F U W∨Jx F U W
def WF{T:Type}(st:T->Int)(met:T->Option Bool)(l:List T):Option (List T):=match Nat.ble l.length 1000000 with | true=>Ei st met l | false=>none
theorem Mr (dE:P.follows .mixedOrders=true) (hz:z.length=aw i) (ax:∀a,(enc i a)[so]? = some (.lit (.int .i64 (st a))))
  (X:∀x y:Int,gT P .lss ti (.tmp 7) (.tmp 6) (.int .i64 x) (.int .i64 y)=some (.bool (decide (x<y))))
  (a0:∀x:Int,gT P .eql ti (.tmp 12) (.const (.int .i64 1)) (.int .i64 x) (.int .i64 1)=some (.bool (x == 1)))
  (Z:∀x:Int,gT P .add ti (.tmp 7) (.const (.int .i64 1)) (.int .i64 x) (.int .i64 1)=some (.int .i64 (i64.wrap (x+1)))) (aa:∀b:Bool,fE P (Op.unary .not (.bool b))=some (.bool (!b)))
  (hm:bL P gm ⟨[.st i,.c (.sl i)],[.c .bool],fun a=>metf a.1 a.2.1⟩)
  (R:∀k,xM B (J k)) (a6:xM B Jx) (ck:l.length≤1000000) {r:List (TT i)} (ab:∀k F U W,J k F U W→Caps F W [[.cJ false (l.map (enc i))]] lb) (a7:lb[0]? = some pv)
  (K:∀k ds F U W vs,(r.map fun a=>[ST (enc i a)])[k]? = some ds→J k F U W→Vals F W ds vs →
   YieldAt Fence.wide 0 P ly vs W fun e W'=>∃F' U',Kept F U W F' U' W'∧((e=.returned (.bool true)∧J (k+1) F' U' W')∨(e=.returned (.bool false)∧Jx F' U' W')))
  {cb:Code} (a8:bM P cb=some (ableL (aw i) so ti tb gm z)):∀(m k it:Nat) (q:List (TT i)) (F U:Nat→Prop) (W:World) (g:Act),k+m=l.length→Ei st (fun x=>metf x l) (l.drop k)=some q→r.drop it=q→it≤r.length→J it F U W →
   eU 26 [] (fun _=>none) F W (nq i l (.func (.yield ly) #[] #[]) pv k) g.tmps→g.defers=[]→Code.roundsIn Fence.wide 0 P cb (Exit.inBlock 0 (DG J Jx r.length)) (m+1) g W:=by
 obtain ⟨c1,r1,rfl,h1,a9⟩:=wG a8
 obtain ⟨c2,r2,rfl,h2,bb⟩:=wG a9
 obtain ⟨c3,c4,rfl,h3,h4⟩:=wG bb
 obtain ⟨x8,cp,cv,rfl,bc,bd,be⟩:=LN h2
 obtain ⟨j2,c0,rfl,c5,bh⟩:=Hy h3
 obtain ⟨d2,r3,rfl,bi,bk⟩:=wG bh
 obtain ⟨d3,d4,rfl,bl,bt⟩:=wG bk
 obtain ⟨c6,c7,c8,rfl,ad,bu,bv⟩:=LN bt
 have:=Lx bd
 subst this
 have:=aah (i:=0) be
 subst this
 have:=inv_ret bu
 subst this
 have:=Lx bv
 subst this
 have tm:∀(x:Operand) (t:Nat),bW x=some (.t t)→x=.tmp t:=fun x t hx=>by
  cases x <;> simp [bW] at hx
  rw [hx]
 have:=tm _ _ bc
 subst this
 have:=tm _ _ ad
 subst this
 have ev:∀{al:AL} {σ:ar} {M:Nat→Option Nat} {F:Nat→Prop} {W:World} {a:Act} {t:Nat} {b:Bool},eU 26 σ M F W al a.tmps→lk t al=some (Abs.B b)→a.eval (.tmp t)=.bool b:=fun {al σ M F W a t b} A h=>by
  obtain ⟨v,g1,g2⟩:=A.2 t _ h
  have:=g2.cj
  subst this
  simp [Act.eval,g1]
 have O:ou P (fun _=>Dn []):=fun _=>nE fun p hp=>by grind
 intro m
 induction m with
 | zero =>
  intro k it q F U W g hk s S OM G A bw
  rw [roundsIn_succ]
  refine wpIn_seq (mV h1 fun ops hs u o=>?_)
  show wpOpsIn Fence.wide 0 P ops _ (List.range' 0 (Ye ti).length++[]) g W
  refine eO O o Vj (fun j ao G=>by simp_all) ?_ ((R _).rel _ _ _ G) A
  refine cn.op (dS (v:=.bool (decide ((k:Int)<l.length))) rfl rfl rfl rfl (X _ _) rfl) iA rfl (cn.nil ?_)
  intro a1 W1 M1 F1 b0 R1 A1 E1
  obtain ⟨j1,_⟩:=(R it).step G (fun b c h=>by simp at h) E1 R1
  refine ⟨wpIn_seq (wpIn_cond_false (by rw [ev A1 rfl]; simp_all) (wpIn_exit ?_)),by simp⟩
  have b1:q=[]:=by
   have:l.drop k=[]:=yBo (by omega)
   rw [this] at s
   simpa [Ei] using s.symm
  subst b1
  have af:it=r.length:=by
   have:=Dr List.length S
   grind
  show Exit.inBlock 0 (DG J Jx r.length) (.exit 0) a1 W1
  simp only [Exit.inBlock,if_true]
  exact ⟨.inl rfl,by simp_all,_,_,.inl (by rw [←af]; exact j1)⟩
 | succ m ih =>
  intro k it q F U W g hk s S OM G A bw
  have b2:k<l.length:=by omega
  have b3:l.drop k=l[k]::l.drop (k+1):=yB1 b2
  rw [b3] at s
  generalize ha:l[k]=a at s
  rw [roundsIn_succ]
  refine wpIn_seq (mV h1 fun ops hs u o=>?_)
  show wpOpsIn Fence.wide 0 P ops _ (List.range' 0 (Ye ti).length++[]) g W
  refine eO O o Vj (fun j ao G=>by simp_all) ?_ ((R _).rel _ _ _ G) A
  refine cn.op (dS (v:=.bool (decide ((k:Int)<l.length))) rfl rfl rfl rfl (X _ _) rfl) iA rfl (cn.nil ?_)
  intro a1 W1 M1 F1 b0 R1 A1 E1
  obtain ⟨j1,o1⟩:=(R it).step G (fun b c h=>by simp at h) E1 R1
  refine ⟨wpIn_seq (wpIn_cond_true (by rw [ev A1 rfl]; simp_all) (wpIn_skip ?_)),by simp⟩
  refine wpIn_seq (wpIn_block (wpIn_seq (mV bi fun ops hs u o=>?_)))
  show wpOpsIn Fence.wide 0 P ops _ (List.range' 0 (able2 (aw i) z).length++[]) a1 W1
  refine eO O o Vj (fun j ao G=>by simp_all) ?_ R1 A1
  have b4:aB l (k:Int)=some a:=by
   unfold aB
   simp_all
  have E:((enc i a).map D.c).length=aw i:=by rw [wj,sE]
  have ak:uq (some (aw i)) ((enc i a).map D.c) 0=some (ST (enc i a)):=zz E
  have b5:(ST (enc i a)).cells? = some ((enc i a).map D.c):=by
   obtain ⟨h1,_⟩:=qS (v:=.agg (exp i a)) (xs:=exp i a) (by grind [fq,exp,Mb]) (dm.ET (.st i) a)
   rw [vF] at h1
   exact h1
  have cm:put z 0 ((enc i a).map D.c)=(enc i a).map D.c:=by
   grind [put]
  refine cn.op (Yk (l:=l) (f:=enc i) (k:=(k:Int)) rfl rfl b4 (sE i a)) iA rfl (cn.op (Es rfl ak) iA rfl (cn.op (MG (d1:=.ptr 0 0 (aw i)) (by simp_all) rfl) iA rfl (cn.eff (DL (cs:=z) (xs:=(enc i a).map D.c) rfl (Pc rfl hz) rfl b5 ⟨E,by omega⟩ (show _=[Ob.cells ((enc i a).map D.c)] by simp_all)) iA rfl (cn.nil ?_))))
  intro a2 W2 M2 F2 co R2 A2 E2
  obtain ⟨b6,o2⟩:=(R it).step j1 o1 E2 R2
  refine ⟨wpIn_seq (able_r3 (k:=(k:Int)) (st:=st) (metf:=metf) (items:=r.map fun a=>[ST (enc i a)]) dE ax a0 aa hm R a6 ab a7 K bl R2 (A2.lks fun t d ht=>?_) (by simp_all) b6 o2 (fun L=>?_) fun b b7 c9=>?_),by simp⟩
  ·have:=mO ht
   simp only [nq,gq,KY,KU,aX] at this
   rcases this with ⟨rfl,rfl⟩ | ⟨rfl,rfl⟩ | ⟨rfl,rfl⟩ | ⟨rfl,rfl⟩ | ⟨rfl,rfl⟩ | ⟨rfl,rfl⟩ <;> rfl
  ·simp only [Ei,L,yBY,if_true] at s
   cases b8:metf a l with
   | none=>simp_all
   | some b =>
    refine ⟨b,rfl,fun hb=>?_⟩
    rw [b8] at s
    simp only [Option.bind_some] at s
    obtain ⟨T,an,e⟩:=cM.1 s
    simp only [hb,if_true,au] at e
    have:r[it]? = some a:=by
     have:=Dr (fun l:List (TT i)=>l[0]?) S
     grind
    simp_all
  ·
   intro F' U' W' A' b' b9 AA cg
   rcases cg with ⟨rfl,N⟩ | ⟨rfl,N⟩
   ·
    refine wpIn_cond_false (ev AA rfl) (wpIn_skip ?_)
    show Exit.inBlock j2 (Exit.then (c4.wpIn Fence.wide 0 P _) _) .normal A' W'
    show c4.wpIn Fence.wide 0 P _ A' W'
    refine mV h4 fun ops hs u o=>?_
    show wpOpsIn Fence.wide 0 P ops _ (List.range' 0 (able4 ti).length++[]) A' W'
    refine eO O o Vj (fun j ao G=>by rw [Rz]; exact u j ao G) ?_ ((R _).rel _ _ _ N) AA
    have da:i64.wrap ((k:Int)+1)=(k:Int)+1:=by
     rw [IntKind.wrap_i64]; omega
    refine cn.op (dS (v:=.int .i64 (i64.wrap ((k:Int)+1))) rfl rfl rfl rfl (Z _) rfl) iA rfl (cn.op (AD rfl) iA rfl (cn.nil ?_))
    intro a5 W5 M5 F5 db R5 A5 E5
    obtain ⟨j5,_⟩:=(R _).step N (fun b c h=>by simp at h) E5 R5
    have A6:eU 26 [] (fun _=>none) F5 W5 (nq i l (.func (.yield ly) #[] #[]) pv ((k+1:Nat):Int)) a5.tmps:=by
     refine A5.data fun t d ht=>?_
     have:=mO ht
     simp only [nq,gq,KY,KU,aX] at this
     rcases this with ⟨rfl,rfl⟩ | ⟨rfl,rfl⟩ | ⟨rfl,rfl⟩ | ⟨rfl,rfl⟩ | ⟨rfl,rfl⟩
     ·refine ⟨?_,rfl⟩
      show some (D.c (C.lit (.int .i64 (i64.wrap ((k:Int)+1)))))=_
      grind
     all_goals exact ⟨rfl,rfl⟩
    refine ⟨?_,by simp⟩
    show Code.roundsIn Fence.wide 0 P _ _ (m+1) a5 W5
    have ch:∃T,Ei st (fun x=>metf x l) (l.drop (k+1))=some T∧r.drop (if b=true then it+1 else it)=T∧(if b=true then it+1 else it)≤r.length:=by
     by_cases L:st a=1
     ·simp only [Ei,L,yBY,if_true] at s
      rw [b7 L] at s
      simp only [Option.bind_some] at s
      obtain ⟨T,an,e⟩:=cM.1 s
      refine ⟨T,an,?_⟩
      cases b with
      | true =>
       simp only [if_true,au] at e ⊢
       have h0:r.drop it=a::T:=by grind
       have av:it<r.length:=by
        grind
       refine ⟨?_,av⟩
       have:=Dr (List.drop 1) h0
       simpa using this
      | false =>
       grind
     ·have hf:(st a == 1)=false:=by grind
      simp only [Ei,hf,b_,cw] at s
      grind
    grind
   ·
    refine wpIn_cond_true (ev AA rfl) (wpIn_ret ?_)
    show DG J Jx r.length .ret A' W'
    exact ⟨.inr rfl,b9,_,_,.inr N⟩
theorem able_ok{g:Nat}{fn:Func}{met:TT i->List (TT i)->Option Bool}(dE:P.follows .mixedOrders=true)(hg:P.funcs[g]? = some fn)(s:iG P fn true=some (ableA (aw i) so ti tb gm z))(hm:bL P gm ⟨[.st i,.c (.sl i)],[.c .bool],λa=>met a.1 a.2.1⟩)(hz:z.length=aw i)(aa:∀a,(enc i a)[so]? = some (.lit (.int .i64 (st a))))
  (ab:∀x y:Int,gT P .lss ti (.tmp 7) (.tmp 6) (.int .i64 x) (.int .i64 y)=some (.bool (decide (x<y))))
  (ad:∀x:Int,gT P .eql ti (.tmp 12) (.const (.int .i64 1)) (.int .i64 x) (.int .i64 1)=some (.bool (x == 1)))
  (A:∀x:Int,gT P .add ti (.tmp 7) (.const (.int .i64 1)) (.int .i64 x) (.int .i64 1)=some (.int .i64 (i64.wrap (x+1)))) (E:∀b:Bool,fE P (Op.unary .not (.bool b))=some (.bool (!b))) :
  Wm P g ⟨[.c (.sl i)],[.c (.sl i)],λa=>WF st (λx=>met x a.1) a.1⟩:=by
 intro l r hr;change WF st (λx=>met x l) l=some r at hr;unfold WF at hr;split at hr
 rotate_left
 ·grind
 rename_i k;have k:=CY k;unfold iG at s;split at s
 rotate_left
 ·grind
 rename_i c hb;split at s
 rotate_left
 ·grind
 rename_i ac rs af ak;simp only[ableA,au,lh.mk.injEq] at s;obtain ⟨_,bd,rfl,rfl,_⟩:=s;intro ly B lb J Jx W F U X G o m h0;obtain ⟨K,an⟩:=o 0 F U W h0;have K:lb.size=1:=K;obtain ⟨pv,L⟩:∃pv,lb[0]? = some pv:=⟨_,sI (by omega)⟩;obtain ⟨c',av,be,T,hh,hl,hx⟩:=an 0 _ pv rfl L;refine callsIn_wide.1 (callsIn_of_wp_marks (F:=Fence.wide) (n:=0) hg hb trivial ?_ rfl);refine wpIn_mono (Q:=DG J Jx r.length) ?_ λe a W' N=>?_
 rotate_left
 ·obtain ⟨he,hd,F',Z,ax⟩:=N;have R':Rel [] (λ_=>none) F' W':=ax.elim (λh=>(X _).rel _ _ _ h) λh=>G.rel _ _ _ h;have E':dB [] (λ_=>none) F' W' (List.replicate a.tmps.size D.any) a.tmps:=⟨by simp,λi d v g1 g2=>by
   have:d=.any:=by grind
   subst this;exact .any v⟩
  obtain ⟨v,hv,_⟩:=jA (P:=P) (a:=a) R' E' ak (ds:=[]) rfl;have fin:LeavesInM Fence.wide 0 P fn a.tmps (λe W'=>(∃v,e=.returned v)/\∃F' Z,J (r.map λa=>[ST (enc i a)]).length F' Z W'∨Jx F' Z W') a.defers .returning W':=by rw[hd];exact ⟨v,hv,⟨v,rfl⟩,F',Z,by simp_all⟩
  rcases he with rfl | rfl
  ·exact fin
  ·exact fin
 obtain ⟨c0,bh,rfl,a0,R⟩:=wG af;obtain ⟨j0,cl,rfl,bi,a2⟩:=Hy R;obtain ⟨cb,rfl,a5⟩:=Xe a2;have:j0=0:=by omega
 subst this;have O:ou P (λ_=>Dn []):=λ_=>nE λp hp=>by grind
 have R0:=(X 0).rel _ _ _ h0;have A0:eU 26 [] (λ_=>none) F W [(0,.c (.lit (.func (.yield ly) #[] #[]))),(1,.c (.lit pv))] ((#[Value.func (.yield ly) #[] #[]]++lb)++Array.replicate (fn.ntmps-(#[Value.func (.yield ly) #[] #[]]++lb).size) undef):=by
  refine ⟨by simp_all,λt d ht=>?_⟩;have:=mO ht;simp only[gq,KY,KU,aX] at this;rcases this with ⟨rfl,rfl⟩ | ⟨rfl,rfl⟩
  ·refine ⟨_,?_,.c (.lit _)⟩
   simp_all
  ·refine ⟨pv,?_,.c (.lit _)⟩
   simp_all
 refine wpIn_seq (mV a0 λops hs q a6=>?_);obtain ⟨o0,a7,S⟩:=q 0 _ rfl;obtain ⟨v1,a8,a9⟩:=A0.2 1 _ rfl;have:=a9.cj;subst this;subst av;show wpOpsIn Fence.wide 0 P ops _ (0::(List.range' 1 2++[])) _ W;refine Iy a7 S R0.gl A0.dk.1 rfl a8 hh (by omega) (λu hu=>hx 0 _ u rfl hu) λv hv=>?_;have A1:=eU.put (a:={ tmps:=(#[Value.func (.yield ly) #[] #[]]++lb)++Array.replicate (fn.ntmps-(#[Value.func (.yield ly) #[] #[]]++lb).size) undef,defers:=[] }) A0 (t:=5) (d:=.c (.cJ false (l.map (enc i)))) (by omega) (.c hv);refine eO (os:=[⟨some 6,.len (.t 5),none⟩,⟨some 7,.Ba (.k (.c (.lit (.int .i64 0)))),none⟩]) O a6 Vj (BV q λj hj=>?_) ?_ R0 A1
 ·have:j=0∨j=1:=by simp at hj;omega
  rcases this with rfl | rfl <;> rfl
 refine cn.op (YO (l:=l) (f:=enc i) rfl) iA rfl (cn.op (AD rfl) iA rfl (cn.nil ?_));intro a1 W1 M1 F1 bb R1 bc E1;obtain ⟨j1,_⟩:=(X 0).step h0 (λb c h=>by simp at h) E1 R1;refine ⟨?_,by simp⟩;show (Code.block 0 (Code.loop cb)).wpIn Fence.wide 0 P _ a1 W1;refine wpIn_block (wpIn_loop_rounds (l.length+1) (Mr (metf:=met) (hm:=hm) dE hz aa ab ad A E X G k o L m a5 l.length 0 0 r F1 _ W1 a1 (by omega) (by simp_all) rfl (Px _) j1 (bc.data λt d ht=>?_) (by rw[bb];rfl)));have:=mO ht;simp only[nq,gq,KY,KU,aX] at this;rcases this with ⟨rfl,rfl⟩ | ⟨rfl,rfl⟩ | ⟨rfl,rfl⟩ | ⟨rfl,rfl⟩ | ⟨rfl,rfl⟩ <;> exact ⟨rfl,rfl⟩
end
end
end Go.Abs
end
section
set_option linter.unusedVariables false
set_option linter.unusedSimpArgs false
namespace Go.Abs
open Go.Proofs Go.Shelf Go.RowKit Go.Lib
variable[Gl]{P:Program}{ρ:Ren}
theorem Hp{w:World}{o:Obj}{r:Nat}(h:r<w.heap.size):(w.alloc o).heap[r]? = w.heap[r]?:=by
 show (w.heap.push o)[r]? = w.heap[r]?
 grind
theorem Ov{w:World}{b j:Nat}{arr:Array Value}{T:TypeId}(h:w.heap[b]? = some (.cells arr T (0,0))):w.cell? ⟨b,j,none⟩=arr[j]?:=by simp[World.cell?,h]
theorem RA{w:World}{b j:Nat}{arr:Array Value}{T:TypeId}(h:w.heap[b]? = some (.cells arr T (0,0))):w.frozen? ⟨b,j,none⟩=false:=by simp[World.frozen?,h]
theorem RD{w:World}{b:Nat}{arr:Array Value}{T:TypeId}(h:w.heap[b]? = some (.cells arr T (0,0))):w.shape? b=some (T,arr.size):=by simp[World.shape?,h]
theorem pg(w:World)(t y ty g:TypeId)(b o d k m so e p es:Nat)(arr q:Array Value)(T A:TypeId)(cs:List Value)
  (E:P.underlying t=some (.slice g)) (hs:∀w,(Go.sizeOf g).run P w=.ok es w) (G:cs.length=Nat.min e d * es) (K:w.heap[b]? = some (.cells arr T (0,0))) (r:w.heap[m]? = some (.cells q A (0,0)))
  (u:∀j v,cs[j]? = some v->q[so+j]? = some v) (x:o+cs.length<=arr.size) (L:∀v∈cs,v.oneCell'=true) :
  (Builtin.copy_ #[t,y] ty #[.slice (some ⟨b,o,none⟩) d k,.slice (some ⟨m,so,none⟩) e p]).run P w=.ok (goInt (Nat.min e d)) (cI w b (.cells (cQ arr o cs) T (0,0))):=by
 have x:=run_loadCells_list (P:=P) w ⟨m,so,none⟩ cs (λj v h=>by rw[show (⟨m,so,none⟩:Addr).add j=⟨m,so+j,none⟩ from by simp[Addr.add],Ov r];simp_all);have s:=zd3 P T b cs o w arr K L (by omega);simp[Builtin.copy_,run_underlying E,Builtin.lenOf,Builtin.firstCells,hs,<-G,x,s]
structure ME (P:Program) (ρ:Ren) (es by':Nat) (nm:String) (z:Value):Prop where
 mixed:P.follows .mixedOrders=true
 f22:P.funcs[ρ.f 22]? = some { Body2.n22 ρ with name:=nm }
 ov:∀args w,(callFunc (ρ.f 29) args).run P w=((Extern.SlicesOverlaps.overlaps #[ρ.t 24,ρ.t 24] #[ρ.t 4] args).run P w).andThen λv w'=>.ok (.value v) w'
 t0:P.underlying (ρ.t 0)=some (TypeDesc.tuple #[])
 t3:P.underlying (ρ.t 3)=some (TypeDesc.int IntKind.i64)
 t4:P.underlying (ρ.t 4)=some (TypeDesc.bool)
 a3:∀w,(isAgg (ρ.t 3)).run P w=.ok false w
 z3:∀w,(Go.sizeOf (ρ.t 3)).run P w=.ok 1 w
 a4:∀w,(isAgg (ρ.t 4)).run P w=.ok false w
 z4:∀w,(Go.sizeOf (ρ.t 4)).run P w=.ok 1 w
 z9:∀w,(Go.sizeOf (ρ.t 9)).run P w=.ok es w
 v9:∀w,(zeroValue (ρ.t 9)).run P w=.ok z w
 t24:P.underlying (ρ.t 24)=some (TypeDesc.slice (ρ.t 9))
 a24:∀w,(isAgg (ρ.t 24)).run P w=.ok false w
 z24:∀w,(Go.sizeOf (ρ.t 24)).run P w=.ok 1 w
 v24:∀w,(zeroValue (ρ.t 24)).run P w=.ok (Value.slice none 0 0) w
 i9:(P.info? (ρ.t 9)).map (λi=>(i.zero,i.size,i.bytes))=some (some z,es,by')
set_option maxHeartbeats 4000000 in
set_option maxRecDepth 100000 in
theorem UN {es Z:Nat} {nm:String} {z:Value} (L:ME P ρ es Z nm z) (b n c i k m s:Nat) (arr d:Array Value) (T S:TypeId) (w:World) (hi:i<n) (hm:0<m) (aa:0<es) (p:n+m≤c) (a9:n+m≤2000000)
  (U:w.heap[b]? = some (.cells arr T (0,0))) (X:w.heap[k]? = some (.cells d S (0,0))) (t:k≠b) (ab:c * es≤arr.size) (u:m * es≤d.size)
  (h1:∀j v,j<n * es→arr[j]? = some v→v.oneCell'=true) (x:∀j v,j<m * es→d[j]? = some v→v.oneCell'=true) :
  Calls P (ρ.f 22) #[.slice (some ⟨b,0,none⟩) n c,.int .i64 i,.slice (some ⟨k,0,none⟩) m s] w fun e w'=>
   e=.returned (.slice (some ⟨b,0,none⟩) (n+m) c)∧w'=cI (cI w.drew b (.cells (cQ arr ((i+m) * es) ((arr.toList.take (n * es)).drop (i * es))) T (0,0))) b (.cells (cQ (cQ arr ((i+m) * es) ((arr.toList.take (n * es)).drop (i * es))) (i * es) (d.toList.take (m * es))) T (0,0)):=by
 have t0:=L.t0; have t3:=L.t3; have t4:=L.t4; have bb:=L.t24; have a3:=L.a3; have z3:=L.z3; have a4:=L.a4; have z4:=L.z4; have z9:=L.z9; have v9:=L.v9; have bc:=L.a24; have bd:=L.z24; have be:=L.v24
 have u0:=run_underlying L.t0; have u3:=run_underlying L.t3; have u4:=run_underlying L.t4; have bh:=run_underlying L.t24
 have ad:=L.mixed
 have bi:¬((m:Int)=0):=by omega
 have bk:¬((i:Int)=(n:Int)):=by omega
 have bl:i64.wrap ((i:Int)+(m:Int))=(i:Int)+(m:Int):=by rw [IntKind.wrap_i64]; omega
 have bt:(0:Int)≤(i:Int)+(m:Int):=by omega
 have af:i≤n:=by omega
 have bu:((i:Int)+(m:Int)).toNat=i+m:=by omega
 have bv:¬(c=i+m):=by omega
 have bw:(i:Int)≤(n:Int)+(m:Int):=by omega
 have b0:¬(c=i):=by omega
 have ak:n * es≤c * es:=Gv _ (by omega)
 have an:(n+m) * es≤c * es:=Gv _ p
 have av:(n+m) * es=n * es+m * es:=MO ..
 have ax:(i+m) * es=i * es+m * es:=MO ..
 have a0:i * es≤n * es:=Gv _ af
 have a1:(n-i) * es=n * es-i * es:=Nat.sub_mul ..
 have a2:0<m * es:=Nat.mul_pos hm aa
 have a5:∀lb cb,(callFunc (ρ.f 29) #[.slice (some ⟨k,0,none⟩) m s,.slice (some ⟨b,(i+m) * es,none⟩) lb cb]).run P w=.ok (.value (.bool false)) w:=fun lb cb=>by
  rw [L.ov,Lib.run_overlaps_apart w (ρ.t 24) (ρ.t 4) (ρ.t 9) L.t24 es L.z9 ⟨k,0,none⟩ ⟨b,(i+m) * es,none⟩ m s lb cb t S T d.size arr.size (RD X) (RD U) (by omega) (RA X) (RA X)]
  rfl
 obtain ⟨h,y⟩:∃h,h=(arr.toList.take (n * es)).drop (i * es):=⟨_,rfl⟩
 obtain ⟨A,E⟩:∃A,A=d.toList.take (m * es):=⟨_,rfl⟩
 have a6:h.length=(n-i) * es:=by grind
 have a7:A.length=m * es:=by simp_all
 rw [←y,←E]
 have o:∀ty q sc,(Builtin.copy_ #[(ρ.t 24),(ρ.t 24)] ty #[.slice (some ⟨b,(i+m) * es,none⟩) (n+m-(i+m)) q,.slice (some ⟨b,i * es,none⟩) (n+m-i) sc]).run P w.drew=.ok (goInt (Nat.min (n+m-i) (n+m-(i+m)))) (cI w.drew b (.cells (cQ arr ((i+m) * es) h) T (0,0))):=fun ty q sc=>
  pg w.drew _ _ ty (ρ.t 9) b ((i+m) * es) (n+m-(i+m)) q b (i * es) (n+m-i) sc es arr arr T T h L.t24 L.z9 (by grind) U U
   (fun j v G=>by
    grind) (by omega)
   (fun v g=>by
    rw [y] at g
    obtain ⟨j,G,e⟩:=iX (yBb g)
    simp only [BY,Array.length_toList] at G
    exact h1 j v (by omega) (by grind))
 obtain ⟨K,r⟩:∃K,K=cI w.drew b (.cells (cQ arr ((i+m) * es) h) T (0,0)):=⟨_,rfl⟩
 have a8:b<w.heap.size:=(Cy.1 U).1
 have N:K.heap[b]? = some (.cells (cQ arr ((i+m) * es) h) T (0,0)):=by rw [r]; exact eX a8
 have O:K.heap[k]? = some (.cells d S (0,0)):=by rw [r,fQ t]; exact X
 have R:∀(W:World),W.heap=K.heap→∀ty q,(Builtin.copy_ #[(ρ.t 24),(ρ.t 24)] ty #[.slice (some ⟨b,i * es,none⟩) (n+m-i) q,.slice (some ⟨k,0,none⟩) m s]).run P W=.ok (goInt (Nat.min m (n+m-i))) (cI W b (.cells (cQ (cQ arr ((i+m) * es) h) (i * es) A) T (0,0))):=fun W hW ty q=>
  pg W _ _ ty (ρ.t 9) b (i * es) (n+m-i) q k 0 m s es (cQ arr ((i+m) * es) h) d T S A L.t24 L.z9 (by grind) (by simp_all) (by simp_all)
   (fun j v G=>by
    grind) (by grind [TL])
   (fun v g=>by
    rw [E] at g
    obtain ⟨j,G,e⟩:=iX g
    simp only [BY,Array.length_toList] at G
    exact x j v (by omega) (by grind))
 rw [←r] at o ⊢
 clear ak an av ax a0 a1 a2 N O ab u h1 x a6 a7
 go_enter L.f22,Body2.n22_ntmps ρ
 go_wp2_with (simp only [a5])
 go_region_law_o (refine step_copy_runI rfl _ _ (ρ.t 24) (ρ.t 24) rfl _ _ (by simp [Act.eval,Act.put]) (by simp [Act.eval,Act.put]) (o _ _ _) ?_)
 go_wp2_with (at_builtin; refine wpList_copy_runI _ rfl _ _ (ρ.t 24) (ρ.t 24) rfl _ _ rfl rfl (R _ rfl _ _) ?_)
 go_ret
 simp_all
set_option maxHeartbeats 4000000 in
set_option maxRecDepth 100000 in
theorem Wt {es y:Nat} {nm:String} {z:Value} (L:ME P ρ es y nm z) (b n c i x m vc:Nat) (arr g:Array Value) (T Tv:TypeId) (w:World) (hi:i<n) (hm:0<m) (bu:0<es) (bv:n≤c) (t:c<n+m) (p:(n+m) * y≤140737488355328) (bw:n+m≤2000000) (b0:z.cells.size=es)
  (hh:w.heap[b]? = some (.cells arr T (0,0))) (hv:w.heap[x]? = some (.cells g Tv (0,0))) (af:c * es≤arr.size) (A:m * es≤g.size)
  (h1:∀j v,j<n * es→arr[j]? = some v→v.oneCell'=true) (ak:∀j v,j<m * es→g[j]? = some v→v.oneCell'=true) :
  Calls P (ρ.f 22) #[.slice (some ⟨b,0,none⟩) n c,.int .i64 i,.slice (some ⟨x,0,none⟩) m vc] w fun e w'=>∃G d,n+m≤G∧d.size=G * es∧(∀j,j<i * es→d[j]? = arr[j]?) ∧
   e=.returned (.slice (some ⟨w.heap.size,0,none⟩) (n+m) G)∧w'=cI (cI (w.alloc (.cells d (ρ.t 9))).drew w.heap.size (.cells (cQ d (i * es) (g.toList.take (m * es))) (ρ.t 9) (0,0))).drew w.heap.size (.cells (cQ (cQ d (i * es) (g.toList.take (m * es))) ((i+m) * es) ((arr.toList.take (n * es)).drop (i * es))) (ρ.t 9) (0,0)):=by
 have t0:=L.t0; have t3:=L.t3; have t4:=L.t4; have b1:=L.t24; have a3:=L.a3; have z3:=L.z3; have a4:=L.a4; have z4:=L.z4; have z9:=L.z9; have v9:=L.v9; have b2:=L.a24; have b3:=L.z24; have b4:=L.v24
 have u0:=run_underlying L.t0; have u3:=run_underlying L.t3; have u4:=run_underlying L.t4; have b5:=run_underlying L.t24
 have an:=L.mixed
 obtain ⟨i0,av,ax,E,K⟩:=info_parts L.i9
 have b6:¬((m:Int)=0):=by omega
 have b7:¬((i:Int)=(n:Int)):=by omega
 have b8:(c:Int)<(n:Int)+(m:Int):=by omega
 have b9:i64.wrap ((i:Int)+(m:Int))=(i:Int)+(m:Int):=by rw [IntKind.wrap_i64]; omega
 have cg:(0:Int)≤(i:Int)+(m:Int):=by omega
 have a0:i≤n:=by omega
 have ch:((i:Int)+(m:Int)).toNat=i+m:=by omega
 have ck:(i:Int)≤(n:Int):=by omega
 have a1:(n:Int)+(m:Int)-(i:Int)=((n+m-i:Nat):Int):=by omega
 have N:i+(n+m-i)=n+m:=by omega
 have a2:n * es≤c * es:=Gv _ (by omega)
 have a5:(n+m) * es=n * es+m * es:=MO ..
 have a6:(i+m) * es=i * es+m * es:=MO ..
 have a7:i * es≤n * es:=Gv _ a0
 have a8:(n-i) * es=n * es-i * es:=Nat.sub_mul ..
 have a9:(n+m-i) * es=(n+m) * es-i * es:=Nat.sub_mul ..
 obtain ⟨G,hG⟩:∃G,G=grownCap w (n+m) c (ρ.t 9):=⟨_,rfl⟩
 have O:n+m≤G:=by grind [Go.grownCap_ge]
 have bb:(n+m) * es≤G * es:=Gv _ O
 have R:(G-(n+m)) * es=G * es-(n+m) * es:=Nat.sub_mul ..
 have q:(Builtin.firstCells i0.size i (.slice (some ⟨b,0,none⟩) i c)).run P w.drew=.ok (arr.toList.take (i * es)).toArray w.drew:=by
  rw [E]
  have hl:=run_loadCells_list (P:=P) w.drew ⟨b,0,none⟩ (arr.toList.take (i * es)) (fun j v h=>by
   grind [Go.Addr.add_lit,Ov,Go.World.drew])
  rw [show (arr.toList.take (i * es)).length=i * es from by grind] at hl
  exact hl
 obtain ⟨d,S⟩:∃d:Array Value,d=(arr.toList.take (i * es)).toArray++Builtin.zeroCells z.cells (n+m-i)++Builtin.zeroCells z.cells (G-(n+m)):=⟨_,rfl⟩
 have bc:d.size=G * es:=by
  grind [ic]
 have bd:∀j,j<i * es→d[j]? = arr[j]?:=fun j hj=>by
  grind
 have be:∀ty,(Builtin.append_ #[(ρ.t 24),(ρ.t 3)] ty #[.slice (some ⟨b,0,none⟩) i c,.int .i64 ((n:Int)+(m:Int)-(i:Int))]).run P w =
   .ok (.slice (some ⟨w.heap.size,0,none⟩) (n+m) G) (w.drew.alloc (.cells d (ρ.t 9))):=fun ty=>by
  have h:=Lib.run_append_grow_zeros w (ρ.t 24) (ρ.t 3) ty (ρ.t 9) i0 _ .i64 .i64 L.t24 L.t3 av ax (some ⟨b,0,none⟩) i c (arr.toList.take (i * es)) q (n+m-i) (by omega) (by omega) (by omega) (by omega)
   (by rw [K]; exact lK (Gv _ (by omega)) (lK p (by omega))) (by rw [K,N]; exact growslice_fits t p)
  simp_all
 obtain ⟨U,X⟩:∃U,U=(arr.toList.take (n * es)).drop (i * es):=⟨_,rfl⟩
 obtain ⟨k,Z⟩:∃k,k=g.toList.take (m * es):=⟨_,rfl⟩
 have bh:U.length=(n-i) * es:=by grind
 have bi:k.length=m * es:=by simp_all
 have aa:b<w.heap.size:=(Cy.1 hh).1
 have ab:x<w.heap.size:=(Cy.1 hv).1
 obtain ⟨r,o⟩:∃r,r=(w.alloc (.cells d (ρ.t 9))).drew:=⟨_,rfl⟩
 have q1:r.heap[w.heap.size]? = some (.cells d (ρ.t 9) (0,0)):=by rw [o]; exact heap_alloc_new w _
 have q2:r.heap[x]? = some (.cells g Tv (0,0)):=by rw [o]; exact (Hp ab).trans hv
 have q3:r.heap[b]? = some (.cells arr T (0,0)):=by rw [o]; exact (Hp aa).trans hh
 have q4:w.heap.size<r.heap.size:=(Cy.1 q1).1
 have ad:∀(W:World),W.heap=r.heap→∀ty u,(Builtin.copy_ #[(ρ.t 24),(ρ.t 24)] ty #[.slice (some ⟨w.heap.size,i * es,none⟩) (n+m-i) u,.slice (some ⟨x,0,none⟩) m vc]).run P W=.ok (goInt (Nat.min m (n+m-i))) (cI W w.heap.size (.cells (cQ d (i * es) k) (ρ.t 9) (0,0))):=fun W hW ty u=>
  pg W _ _ ty (ρ.t 9) w.heap.size (i * es) (n+m-i) u x 0 m vc es d g (ρ.t 9) Tv k L.t24 L.z9 (by grind) (by simp_all) (by simp_all)
   (fun j v hj=>by
    grind) (by omega)
   (fun v bk=>by
    grind [List.getElem_of_mem])
 have s:∀(W:World),W.heap=(cI r w.heap.size (.cells (cQ d (i * es) k) (ρ.t 9) (0,0))).heap→∀ty u sc,(Builtin.copy_ #[(ρ.t 24),(ρ.t 24)] ty #[.slice (some ⟨w.heap.size,(i+m) * es,none⟩) (n+m-(i+m)) u,.slice (some ⟨b,i * es,none⟩) (n-i) sc]).run P W=.ok (goInt (Nat.min (n-i) (n+m-(i+m)))) (cI W w.heap.size (.cells (cQ (cQ d (i * es) k) ((i+m) * es) U) (ρ.t 9) (0,0))):=fun W hW ty u sc=>
  pg W _ _ ty (ρ.t 9) w.heap.size ((i+m) * es) (n+m-(i+m)) u b (i * es) (n-i) sc es (cQ d (i * es) k) arr (ρ.t 9) T U L.t24 L.z9 (by grind) (by grind [eX]) (by grind [fQ])
   (fun j v hj=>by
    grind) (by grind [TL])
   (fun v bk=>by
    grind [List.getElem_of_mem])
 have bl:G≤9223372036854775807:=by
  grind [Go.grownCap_le_maxLen,Go.maxLen]
 have cm:¬(G=i):=by omega
 have bt:¬(G=i+m):=by omega
 have co:¬(c=i):=by omega
 rw [←X,←Z]
 clear a2 a5 a6 a7 a8 a9 bb R q1 q2 q3 q4 af A h1 ak bh bi a1 N q S hG aa ab X Z
 subst o
 have hF:((cI (w.alloc (.cells d (ρ.t 9))).drew w.heap.size (.cells (cQ d (i * es) k) (ρ.t 9) (0,0))).drew).heap=(cI (w.alloc (.cells d (ρ.t 9))).drew w.heap.size (.cells (cQ d (i * es) k) (ρ.t 9) (0,0))).heap:=rfl
 go_enter L.f22,Body2.n22_ntmps ρ
 go_wp2_with (first
  | (at_builtin; refine Lib.wpList_append_run _ rfl _ _ _ _ rfl _ _ rfl rfl _ _ (be _) ?_)
  | (at_builtin; refine wpList_copy_runI _ rfl _ _ (ρ.t 24) (ρ.t 24) rfl _ _ rfl rfl (ad _ rfl _ _) ?_)
  | (at_builtin; refine wpList_copy_runI _ rfl _ _ (ρ.t 24) (ρ.t 24) rfl _ _ rfl rfl (s _ rfl _ _ _) ?_))
 go_region_law_o (refine step_copy_runI rfl _ _ (ρ.t 24) (ρ.t 24) rfl _ _ (by simp [Act.eval,Act.put]) (by simp [Act.eval,Act.put]) (s _ hF _ _ _) ?_)
 go_wp2
 go_ret
 exact ⟨G,d,O,bc,bd,rfl,rfl⟩
end Go.Abs
end
section
namespace Go.Abs
open Go.Proofs Go.Shelf
noncomputable section
section
variable[Gl]{P:Program}{ρ:Ren}{σ:ar}{M:Nat->Option Nat}{Fz:Nat->Prop}{w:World}
theorem TO{g q:Array Value}{n m k es:Nat}{arr:Array Value}{e o:List D}(hk:k<=n)(s:e.length=n * es)(p:o.length=m * es)
  (y:∀j,j<k * es->arr[j]? = g[j]?) (t:∀j,j<m * es->arr[k * es+j]? = q[j]?) (u:∀j,k * es<=j->j<n * es->arr[j+m * es]? = g[j]?)
  (Q:D->Value->Prop) (A:∀(i:Nat) d v,e[i]? = some d->g[i]? = some v->Q d v) (E:∀(i:Nat) d v,o[i]? = some d->q[i]? = some v->Q d v) :
  ∀(i:Nat) d v,(e.take (k * es)++o++e.drop (k * es))[i]? = some d->arr[i]? = some v->Q d v:=λi d v hd G=>by
 have K:k * es<=n * es:=Gv _ hk;have r:(e.take (k * es)).length=k * es:=by simp_all
 by_cases h:i<k * es
 ·grind
 ·by_cases L:i<k * es+m * es
  ·rw[HA (by simp_all),OG (by omega),r] at hd;have:=t (i-k * es) (by omega)
   grind
  ·rw[OG (by simp_all),yBF] at hd;simp only[AH,r,p] at hd;have x:=(gC.1 hd).1;have:=u (k * es+(i-(k * es+m * es))) (by omega) (by omega)
   grind
theorem P_{c:Nat}{o o':Obj}:(cI (cI w c o) c o').heap=(cI w c o').heap:=by
 simp only[cI]
 simp_all
theorem QO{o o':Obj}:(cI (w.alloc o) w.heap.size o').heap=(w.alloc o').heap:=by
 show (w.heap.push o).setIfInBounds w.heap.size o'=w.heap.push o'
 grind
end
section
variable[Gl][Y:Ty]{P:Program}{ρ:Ren}{α:Type}{f:α->List C}{es:Nat}
theorem YP(d:∀a,(f a).length=es){l v:List α}{k:Nat}(hk:k<=l.length):((l.take k++v++l.drop k).flatMap f).map D.c=((l.flatMap f).map D.c).take (k * es)++(v.flatMap f).map D.c++((l.flatMap f).map D.c).drop (k * es):=by
 have e:(l.flatMap f).map D.c=((l.take k).flatMap f).map D.c++((l.drop k).flatMap f).map D.c:=by grind [List.take_append_drop]
 grind [eK,List.length_take]
theorem QR{ax:Nat}{nm:String}{z:Value}(L:ME P ρ es ax nm z)(bc:z.cells.size=es)(Z:0<es)(bd:ax<=1000)(hf:∀a,(f a).length=es){l v:List α}{k:Nat}(hk:k<l.length)(hm:0<v.length)(a0:l.length+v.length<=1000000) :
  Ok P (ρ.f 22) [OS es 0 l.length,.c (.lit (.int .i64 (k:Int))),OS es 1 v.length] [OB f l,OB f v] (OS es 0 (l.take k++v++l.drop k).length) [OB f (l.take k++v++l.drop k),OB f v]:=by
 intro M Fz w vs R hs hv;have be:vs.size=3:=hs;obtain ⟨v0,v1,v2,rfl⟩:∃v0 v1 v2,vs=#[v0,v1,v2]:=by
  obtain ⟨xs⟩:=vs
  match xs,be with
  |[a,b,c],_=>simp_all
 have g0:=hv 0 _ v0 rfl rfl;have g1:=(hv 1 _ v1 rfl rfl).cj;have g2:=hv 2 _ v2 rfl rfl;subst g1;have u:([OB f l,OB f v]:ar)[0]? = some (.cells ((l.flatMap f).map D.c)):=rfl;have a1:([OB f l,OB f v]:ar)[1]? = some (.cells ((v.flatMap f).map D.c)):=rfl;have L0:((l.flatMap f).map D.c).length=l.length * es:=by rw[wj,eK hf]
 have L1:((v.flatMap f).map D.c).length=v.length * es:=by rw[wj,eK hf]
 have nn:(l.take k++v++l.drop k).length=l.length+v.length:=by grind
 have b2:k * es<l.length * es:=yBR hk Z;have b3:(l.length+v.length) * es=l.length * es+v.length * es:=MO ..;have b4:0<v.length * es:=Nat.mul_pos hm Z;have b5:(k+v.length) * es=k * es+v.length * es:=MO ..;rcases g0.ft (Pc u L0) with ⟨_,e,_⟩ | ⟨c,o,cap,m,T,hM,rfl,⟨bh,b6⟩,ho,hh,b1,_⟩
 ·omega
 rcases g2.ft (Pc a1 L1) with ⟨_,e,_⟩ | ⟨cv,ov,ab,p,Tv,a2,rfl,⟨b7,b8⟩,b9,af,bi,_⟩
 ·omega
 have cg:∀x y:Nat,0<x->x<=y->y≠0:=λx y h h'=>by omega
 obtain rfl:o=0:=by omega
 obtain rfl:ov=0:=by omega
 obtain ⟨N,T',ak,_,a5⟩:=R.row hM u;rw[hh] at ak;simp only[au,Obj.cells.injEq,Oa] at ak;obtain ⟨rfl,rfl⟩:=ak;obtain ⟨bk,ch,O,_,a6⟩:=R.row a2 a1;rw[af] at O;simp only[au,Obj.cells.injEq,Oa] at O;obtain ⟨rfl,rfl⟩:=O;have bl:cv≠c:=λe=>by have:=R.inj 1 0 c (e▸a2) hM;omega
 have o1:∀j x,j<l.length * es->m[j]? = some x->x.oneCell'=true:=λj x hj hx=>by grind
 have o2:∀j x,j<v.length * es->p[j]? = some x->x.oneCell'=true:=λj x hj hx=>by grind
 have S:cap * es<=m.size:=by omega
 have t:v.length * es<=p.size:=by omega
 have hS:=λh:l.length+v.length<=cap=>UN L c l.length cap k cv v.length ab m p T Tv w hk hm Z h (by omega) hh af bl S t o1 o2;have hG:=λh:cap<l.length+v.length=>Wt L c l.length cap k cv v.length ab m p T Tv w hk hm Z bh h (lK (yCk a0 bd) (by omega)) (by omega) bc hh af S t o1 o2;have a7:((m.toList.take (l.length * es)).drop (k * es)).length=l.length * es-k * es:=by grind
 have a8:(p.toList.take (v.length * es)).length=v.length * es:=by grind
 have ck:∀j,k * es<=j->j<l.length * es->((m.toList.take (l.length * es)).drop (k * es))[j-k * es]? = m[j]?:=λj h h'=>by rw[yBF,show k * es+(j-k * es)=j by omega,List.getElem?_take,if_pos h'];simp
 have cm:∀j,j<v.length * es->(p.toList.take (v.length * es))[j]? = p[j]?:=λj h=>by grind
 generalize (m.toList.take (l.length * es)).drop (k * es)=CS at *;generalize p.toList.take (v.length * es)=VS at *;have fin:=YP hf (l:=l) (v:=v) (k:=k) (by omega);have Lf:(((l.take k++v++l.drop k).flatMap f).map D.c).length=(l.length+v.length) * es:=by grind
 have R1:Rel [OB f l,OB f v] M Fz w.drew:=R.heap rfl ⟨rfl,rfl,rfl⟩;have E1:bH [OB f l,OB f v] M Fz w [OB f l,OB f v] M Fz w.drew:=bH.heap R rfl ⟨rfl,rfl,rfl⟩;have bt:c<w.heap.size:=(Cy.1 hh).1;have row:∀(A:Array Value)(M':Nat->Option Nat)(w':World),bH [OB f l,OB f v] M Fz w [OB f (l.take k++v++l.drop k),OB f v] M' Fz w'->(∀j,j<k * es->A[j]? = m[j]?)->(∀j,j<v.length * es->A[k * es+j]? = p[j]?)->(∀j,k * es<=j->j<l.length * es->A[j+v.length * es]? = m[j]?) ->
   ∀(i:Nat) d x,(((l.take k++v++l.drop k).flatMap f).map D.c)[i]? = some d->A[i]? = some x->V [OB f (l.take k++v++l.drop k),OB f v] M' Fz w' d x/\x.oneCell'=true:=λA M' w' E hA hB hC=>by
  rw[fin];exact TO (by omega) L0 L1 hA hB hC (λd x=>V [OB f (l.take k++v++l.drop k),OB f v] M' Fz w' d x/\x.oneCell'=true) (λi d x h1 h2=>⟨(a5 i d x h1 h2).1.mono E,(a5 i d x h1 h2).2⟩) (λi d x h1 h2=>⟨(a6 i d x h1 h2).1.mono E,(a6 i d x h1 h2).2⟩)
 have aa:(Ob.cells ((l.flatMap f).map D.c)).sz<(OB f (l.take k++v++l.drop k)).sz:=by show ((l.flatMap f).map D.c).length<(((l.take k++v++l.drop k).flatMap f).map D.c).length;omega
 by_cases r:l.length+v.length<=cap
 ·refine (hS r).mono λe w' he=>?_;obtain ⟨rfl,rfl⟩:=he;have bu:(l.length+v.length) * es<=cap * es:=Gv _ r;generalize an:cQ m ((k+v.length) * es) CS=K;have bv:K.size=m.size:=by grind [TL]
  generalize av:cQ K (k * es) VS=q;have bw:q.size=m.size:=by grind [TL]
  rw[Hj];have ad:∀U T1 fr,Obj.cells m T (0,0)=.cells U T1 fr->∃N,Obj.cells q T (0,0)=.cells N T1 fr/\N.size=U.size:=λU T1 fr h=>by grind
  have EV:=bH.tH (ob':=OB f (l.take k++v++l.drop k)) R1 hM u hh (yCc aa) ad;have a9:=E1.trans EV (cX _);have g:∀j,q[j]? = if k * es<=j/\j<k * es+v.length * es then VS[j-k * es]? else K[j]?:=λj=>by rw[<-av,cB (by omega),a8]
  have g':∀j,K[j]? = if (k+v.length) * es<=j/\j<(k+v.length) * es+(l.length * es-k * es) then CS[j-(k+v.length) * es]? else m[j]?:=λj=>by rw[<-an,cB (by omega),a7]
  have hr:=row q M _ a9 (λj hj=>by rw[g,if_neg (by omega),g',if_neg (by omega)]) (λj hj=>by rw[g,if_pos (by omega),yBA];grind)
   (λj h h'=>by rw[g,if_neg (by omega),g',if_pos (by omega),show j+v.length * es-(k+v.length) * es=j-k * es by omega];grind)
  refine ⟨_,M,Fz,rfl,R1.tH hM u hh (yCc aa) ad ⟨q,T,rfl,by omega,hr⟩,?_,a9⟩;rw[nn];refine .sl _ _ _ (by simp) (OB f (l.take k++v++l.drop k)) rfl (by show _<=(((l.take k++v++l.drop k).flatMap f).map D.c).length;omega) (λ_=>.inr ⟨c,0,q,T,hM,rfl,rfl,⟨r,by omega⟩,.inl rfl,eX bt,by omega,by omega⟩)
 ·refine (hG (by omega)).mono λe w' he=>?_;obtain ⟨G,s,bb,co,b0,rfl,rfl⟩:=he;have bu:(l.length+v.length) * es<=G * es:=Gv _ bb;generalize an:cQ s (k * es) VS=K;have bv:K.size=s.size:=by grind [TL]
  generalize av:cQ K ((k+v.length) * es) CS=q;have bw:q.size=s.size:=by grind [TL]
  have EV:=bH.move (o':=.cells q (ρ.t 9)) (ob':=OB f (l.take k++v++l.drop k)) R u aa;have X:(cI (cI (w.alloc (.cells s (ρ.t 9))).drew w.heap.size (.cells K (ρ.t 9) (0,0))).drew w.heap.size (.cells q (ρ.t 9) (0,0))).heap=(w.alloc (.cells q (ρ.t 9))).heap:=by have e1:(cI (cI (w.alloc (.cells s (ρ.t 9))).drew w.heap.size (.cells K (ρ.t 9) (0,0))).drew w.heap.size (.cells q (ρ.t 9) (0,0))).heap=(cI (cI (w.alloc (.cells s (ρ.t 9))) w.heap.size (.cells K (ρ.t 9) (0,0))) w.heap.size (.cells q (ρ.t 9) (0,0))).heap:=rfl;rw[e1,P_,QO]
  have g:∀j,q[j]? = if (k+v.length) * es<=j/\j<(k+v.length) * es+(l.length * es-k * es) then CS[j-(k+v.length) * es]? else K[j]?:=λj=>by rw[<-av,cB (by omega),a7]
  have g':∀j,K[j]? = if k * es<=j/\j<k * es+v.length * es then VS[j-k * es]? else s[j]?:=λj=>by rw[<-an,cB (by omega),a8]
  have hr:=row q _ _ EV (λj hj=>by rw[g,if_neg (by omega),g',if_neg (by omega),b0 j hj]) (λj hj=>by rw[g,if_neg (by omega),g',if_pos (by omega),yBA];grind)
   (λj h h'=>by rw[g,if_pos (by omega),show j+v.length * es-(k+v.length) * es=j-k * es by omega];grind)
  have RM:=R.move (o':=.cells q (ρ.t 9)) (ob':=OB f (l.take k++v++l.drop k)) u aa ⟨q,ρ.t 9,rfl,by omega,hr⟩;have cp:(w.alloc (.cells q (ρ.t 9))).os=w.os/\(w.alloc (.cells q (ρ.t 9))).tape=w.tape/\(w.alloc (.cells q (ρ.t 9))).output=w.output:=⟨rfl,rfl,rfl⟩;have RF:=RM.heap X ⟨rfl,rfl,rfl⟩;have EF:=EV.trans (bH.heap RM X ⟨rfl,rfl,rfl⟩) (cX _);refine ⟨_,_,Fz,rfl,RF,?_,?_⟩
  rotate_left
  ·exact EF
  rw[nn];refine .sl _ _ _ (by simp) (OB f (l.take k++v++l.drop k)) rfl (by show _<=(((l.take k++v++l.drop k).flatMap f).map D.c).length;omega) (λ_=>.inr ⟨w.heap.size,0,q,ρ.t 9,by simp[xD],rfl,rfl,⟨bb,by omega⟩,.inl rfl,?_,by omega,by omega⟩)
  grind [Go.heap_alloc_new]
end
end
end Go.Abs
end
section
namespace Go.Abs
open Go.Proofs Go.Shelf
noncomputable section
variable[Gl][Y:Ty]
def Lk{α:Type}(l v:List α)(k:Int):Option (List α):=if 0<=k/\k<l.length/\0<v.length/\l.length+v.length<=1000000 then some (l.take k.toNat++v++l.drop k.toNat) else none
def orE{α:Type}(a b:Option α):Option α:=match a with | some x=>some x | none=>b
theorem cW.or {P:Program} {g:FuncId} {o:CT} {s:List CT} {f1 f2:dJ o.items→Option (qB s)} (u:cW P g ⟨o,s,f1⟩) (U:cW P g ⟨o,s,f2⟩):cW P g ⟨o,s,fun x=>orE (f1 x) (f2 x)⟩:=
 ⟨u.1,fun x y A σ E z G K j O hs R=>by
  change orE (f1 x) (f2 x)=some y at j
  cases h:f1 x with
  | some X =>
   rw [h] at j
   exact u.2 x y A σ E z G K (by rw [←j]; exact h) O hs R
  | none =>
   rw [h] at j
   exact U.2 x y A σ E z G K j O hs R⟩
theorem HG{P:Program}{ρ:Ren}{ii es j:Nat}{A:String}{z:Value}(L:ME P ρ es j A z)(p:Nat.beq es (aw ii)=true)(E:aV P (ρ.f 22)=true)(q:Nat.beq z.cells.size es=true)(r:Nat.blt 0 es=true)(s:Nat.ble j 1000=true) :
  cW P (ρ.f 22) ⟨.mk [.p (.hd 0),.v (.c (.int .i64)),.p (.hd 1)] [] [.row ii,.row ii] [] [] [],[.mk [.p (.hd 0)] [.w 0 ii] [] [] [] []],λx=>Lk (α:=TT ii) x.1 x.2.1 x.2.2⟩:=by
 have:=cY p;subst this;refine ⟨E,λx y G σ S z K N g u d t=>?_⟩;dsimp only at g u d;change dJ [It.ls ii,It.ls ii,It.cc (.int .i64)] at x;change dJ [It.ls ii] at y;have m:some ([TV.c (.own ii 0 0 (List.length (α:=TT ii) x.1)),TV.c (.d (.c (.lit (.int .i64 x.2.2)))),TV.c (.own ii 1 0 (List.length (α:=TT ii) x.2.1))],[TB.row ii x.1 0 0,TB.row ii x.2.1 0 0])=some (G,σ):=by rw[<-u];have e:dR (CT.items (.mk [.p (.hd 0),.v (.c (.int .i64)),.p (.hd 1)] [] [.row ii,.row ii] [] [] [])) x=[⟨.ls ii,x.1⟩,⟨.ls ii,x.2.1⟩,⟨.cc (.int .i64),x.2.2⟩]:=rfl;unfold mY;rw[e];simp only[CT.pl,CT.nb,CT.out,cd,dA,kZ,zu,wY,Gb,dV,dO,DA,List.nil_append,List.getElem?_cons_zero,List.getElem?_cons_succ,rT]
 simp only[au,aX] at m;obtain ⟨rfl,rfl⟩:=m;simp only[tX,au,yB2] at d;obtain ⟨rfl,rfl⟩:=d;have o:some ([TV.c (.own ii 0 1 (List.length (α:=TT ii) y))],[TB.row ii y 1 1,TB.row ii x.2.1 0 0])=some (K,N):=by rw[<-t];have e:dR (CT.items (.mk [.p (.hd 0)] [.w 0 ii] [] [] [] [])) y=[⟨.ls ii,y⟩]:=rfl;unfold mY;rw[e];simp only[CT.pl,CT.nb,CT.out,cd,dA,kZ,zu,wY,Gb,dV,dO,DA,List.cons_append,List.nil_append,List.getElem?_cons_zero,List.getElem?_cons_succ,List.set_cons_zero,yCm]
 simp only[au,aX] at o;obtain ⟨rfl,rfl⟩:=o;obtain ⟨l,v,k⟩:=x;change List (TT ii) at l;change List (TT ii) at v;change List (TT ii) at y;change Int at k;change Lk l v k=some y at g;unfold Lk at g;split at g
 ·rename_i h;simp only[au] at g;subst g;obtain ⟨T,U,O,R⟩:=h;have:=QR L (cY q) (ug.mp r) (CY s) (sE ii) (l:=l) (v:=v) (k:=k.toNat) (by omega) O R;rw[show ((k.toNat:Nat):Int)=k by omega] at this;exact this
 ·simp at g
end
end Go.Abs
end
section
namespace Go.Abs
open Go.Proofs Go.Sort Go.RowKit
noncomputable section
structure QN (P:Program) (g:FuncId):Prop where
 en:aV P g=true
 run:∀(blk off cap:Nat)(zs:List Int)(w:World),Holds encZ w blk off zs.toArray->blk<w.heap.size->zs.length<4611686018427387904->Calls P g #[.slice (some ⟨blk,off,none⟩) zs.length cap] w λe w'=>e=.returned (.tuple #[])/\∃n os,w'=grow (putRow encZ (Sort.ahead w n) blk off (zs.mergeSort λx y=>decide (x<=y)).toArray) os
 nil:∀(p:Option Addr)(cap:Nat)(w:World),Calls P g #[.slice p 0 cap] w λe w'=>e=.returned (.tuple #[])/\w'=w
structure Bt (P:Program) (g:FuncId):Prop where
 en:aV P g=true
 run:∀(blk off cap:Nat)(zs:List Int)(w:World),Holds encZ w blk off zs.toArray->zs.length<=9223372036854775807->zs.length<=cap->Calls P g #[.slice (some ⟨blk,off,none⟩) zs.length cap] w λe w'=>e=.returned (.slice (some ⟨blk,off,none⟩) (Lib.compact zs).length cap)/\∃q,w'=putRow encZ (Sort.ahead w q) blk off (Lib.compact zs++List.replicate (zs.length-(Lib.compact zs).length) 0).toArray
 nil:∀(a:Option Addr)(cap:Nat)(w:World),Calls P g #[.slice a 0 cap] w λe w'=>e=.returned (.slice a 0 cap)/\w'=w
def Pk(x:Int):List Int->List Int
 |[]=>[x]
 |y::l=>if x<=y then x::y::l else y::Pk x l
def Me:List Int->List Int
 |[]=>[]
 |x::l=>Pk x (Me l)
theorem BS(x:Int):∀l,(Pk x l).Perm (x::l)
 |[]=>.refl _
 |y :: l => by
  unfold Pk;split
  ·exact .refl _
  ·exact ((BS x l).cons y).trans (.swap ..)
theorem Fw:∀l,(Me l).Perm l
 |[]=>.refl _
 |x::l=>(BS x _).trans ((Fw l).cons x)
theorem Ca(x:Int):∀{l:List Int},l.Pairwise (λa b=>decide (a<=b)=true)->(Pk x l).Pairwise λa b=>decide (a<=b)=true
 |[],_=>by simp[Pk]
 |y :: l, h => by
  have e:=yBm.1 h;unfold Pk;split
  ·rename_i c;refine yBm.2 ⟨λa d=>?_,h⟩;rcases gq.1 d with rfl | d
   ·simpa using c
   ·have:=e.1 a d;simp at this ⊢;omega
  ·rename_i c;refine yBm.2 ⟨λa d=>?_,Ca x e.2⟩;rcases gq.1 ((BS x l).mem_iff.1 d) with rfl | d
   ·simp;omega
   ·exact e.1 a d
theorem Ap:∀l,(Me l).Pairwise λa b=>decide (a<=b)=true
 |[]=>.nil
 |x::l=>Ca x (Ap l)
theorem NL(l:List Int):Me l=l.mergeSort λx y=>decide (x<=y):=
 (List.mergeSort_of_pairwise (Ap l)).symm.trans (Go.mergeSort_of_perm_i (Fw l))
def Nt{α:Type}(d:α->Int)(c:Int->α)(l:List α):Option (List α):=if l.length<=1000000 then some ((Me (l.map d)).map c) else none
def LM{α:Type}(d:α->Int)(c:Int->α)(l:List α):Option (List α×List α):=if l.length<=1000000 then some (l++[c 0],(Lib.compact (l.map d)).map c) else none
abbrev dI(k:Int):D:=.c (.lit (.int .i64 k))
variable[Gl]
theorem Sz{σ:ar}{M:Nat->Option Nat}{Fz:Nat->Prop}{w:World}(R:Rel σ M Fz w){b c n:Nat}{os:Array Obj}{arr:Array Value}{T:TypeId}(x:M b=some c){zs e:List Int}(y:σ[b]? = some (.cells (zs.map dI)))
  (r:w.heap[c]? = some (.cells arr T (0,0))) (U:e.length=zs.length) (E:zs.length<=arr.size) :
  Rel (σ.set b (.cells (e.map dI))) M Fz (grow (putRow encZ (Sort.ahead w n) c 0 e.toArray) os)/\bH σ M Fz w (σ.set b (.cells (e.map dI))) M Fz (grow (putRow encZ (Sort.ahead w n) c 0 e.toArray) os)/\(grow (putRow encZ (Sort.ahead w n) c 0 e.toArray) os).heap[c]? = some (.cells (putCells encZ 0 e.toArray arr) T (0,0)):=by
 have G:c<w.heap.size:=(Cy.1 r).1;have X:(putCells encZ 0 e.toArray arr).size=arr.size:=by simp[putCells]
 have m:∀j s t,Obj.cells arr T (0,0)=.cells j s t->∃o,Obj.cells (putCells encZ 0 e.toArray arr) T (0,0)=.cells o s t/\o.size=j.size:=λj s t h=>by simp_all
 have p:(Ob.cells (zs.map dI)).sz<=(Ob.cells (e.map dI)).sz:=by grind [Ob.sz]
 have cells:∀(i:Nat) k,e[i]? = some k->(putCells encZ 0 e.toArray arr)[i]? = some (encZ k):=λi k hk=>by
  have Z:i<e.length:=(gC.1 hk).1;have K:i<arr.size:=by omega
  simp only[putCells,Array.getElem?_mapIdx,sI K,Option.map_some]
  simp_all
 have L:=bH.tH (ob':=.cells (e.map dI)) R x y r p m;have A:=R.tH (ob':=.cells (e.map dI)) x y r p m ⟨_,T,rfl,by simp_all,λi d v hd u=>by rw[mE,cE] at hd;obtain ⟨k,hk,rfl⟩:=hd;rw[cells i k hk] at u;simp only[au] at u;subst u;exact ⟨.c (.lit _),rfl⟩⟩
 have q:=heap_sorted_i (n:=n) (os:=os) e.toArray r;have B:Below (cI w c (.cells (putCells encZ 0 e.toArray arr) T (0,0))).heap.size (cI w c (.cells (putCells encZ 0 e.toArray arr) T (0,0))) (grow (putRow encZ (Sort.ahead w n) c 0 e.toArray) os):=by
  obtain ⟨N,O,S,h4,h5⟩:=grownBy_sorted_i (w:=w) (g:=c) (n:=n) (os:=os) e.toArray;refine ⟨N,O,S,by simp_all,λk hk=>?_⟩
  grind [eX,fQ]
 exact ⟨A.below B,L.trans (bH.below A B) (by simp),q⟩
theorem HZ{σ:ar}{M:Nat->Option Nat}{Fz:Nat->Prop}{w:World}(R:Rel σ M Fz w){b c:Nat}{arr:Array Value}{T:TypeId}(k:M b=some c){zs:List Int}(m:σ[b]? = some (.cells (zs.map dI)))(h:w.heap[c]? = some (.cells arr T (0,0)))(o:zs.length<=arr.size) :
  Holds encZ w c 0 zs.toArray:=by
 obtain ⟨j,p,d,q,e⟩:=R.row k m;rw[h] at d;simp only[au,Obj.cells.injEq,Oa] at d;obtain ⟨rfl,rfl⟩:=d;refine holds_of_block_i h (T_ λi=>?_);by_cases g:i<zs.length
 ·rw[List.getElem?_take,if_pos g,OD,mE,eS g,sI (by omega)];have:=(e i (dI zs[i]) (arr[i]'(by omega)) (by simp[g]) (sI _)).1.cj
  simp_all
 simp_all
variable[Y:Ty]
theorem XR{P:Program}{g:FuncId}(K:QN P g){zs:List Int}(u:zs.length<=1000000) :
  Ok P g [.sl 0 0 zs.length 1 (zs.length * 1)] [.cells (zs.map dI)] (.aS []) [.cells ((zs.mergeSort λx y=>decide (x<=y)).map dI)]:=by
 intro M Fz w A R hs N;obtain ⟨m,rfl⟩:∃m,A=#[m]:=by
  obtain ⟨O⟩:=A
  match O,hs with
  |[a],_=>simp_all
 have E:=N 0 _ m rfl rfl;have k:([Ob.cells (zs.map dI)]:ar)[0]? = some (.cells (zs.map dI)):=rfl;have j:od [Ob.cells (zs.map dI)] 0 (zs.length * 1)=some (zs.map dI):=Pc k (by simp);have S:(zs.mergeSort λx y=>decide (x<=y)).length=zs.length:=List.length_mergeSort zs;by_cases G:zs=[]
 ·subst G;have:∃p cap,m=.slice p 0 cap:=by
   rcases E.ft j with ⟨h,_⟩ | ⟨c,o,cap,q,T,r,h,_⟩ <;> exact ⟨_,_,h⟩
  obtain ⟨p,cap,rfl⟩:=this;refine (K.nil p cap w).mono ?_;rintro e U ⟨rfl,rfl⟩;rw[show ([]:List Int).mergeSort (λx y=>decide (x<=y))=[] by simp];exact ⟨_,M,Fz,rfl,R,.aS _ rfl λi d v h=>by simp at h,bH.refl R⟩
 ·have X:zs.length≠0:=λh=>G (Yy h);rcases E.ft j with ⟨_,e,_⟩ | ⟨c,o,cap,q,T,r,rfl,⟨Z,aa⟩,ho,s,L,_⟩
  ·omega
  obtain rfl:o=0:=by omega
  have t:c<w.heap.size:=(Cy.1 s).1;refine (K.run c 0 cap zs w (HZ R r k s (by omega)) t (by omega)).mono ?_;rintro e U ⟨rfl,n,os,rfl⟩;obtain ⟨R',E',_⟩:=Sz (n:=n) (os:=os) R r k s S (by omega);exact ⟨_,M,Fz,rfl,R',.aS _ rfl λi d v h=>by simp at h,E'⟩
theorem yW(zs:List Int):(Lib.compact zs).length<=zs.length:=by grind [Go.Lib.compact,Go.Lib.compactUpTo]
theorem Lq{P:Program}{g:FuncId}(K:Bt P g){zs garb:List Int}(u:zs.length<=1000000)(hg:zs.length<garb.length) :
  Ok P g [.sl 0 0 zs.length 1 (zs.length * 1)] [.cells (zs.map dI)] (.sl 1 0 (Lib.compact zs).length 1 ((Lib.compact zs).length * 1)) [.cells (garb.map dI),.cells ((Lib.compact zs).map dI)]:=by
 have N:(Lib.compact zs++List.replicate (zs.length-(Lib.compact zs).length) 0).length=zs.length:=by grind [yW]
 have m:Ok P g [.sl 0 0 zs.length 1 (zs.length * 1)] [.cells (zs.map dI)] (.sl 0 0 (Lib.compact zs).length 1 (zs.length * 1)) [.cells ((Lib.compact zs++List.replicate (zs.length-(Lib.compact zs).length) 0).map dI)]:=by
  intro M Fz w v R hs O;obtain ⟨q,rfl⟩:∃q,v=#[q]:=by
   obtain ⟨S⟩:=v
   match S,hs with
   |[a],_=>simp_all
  have x:=O 0 _ q rfl rfl;have k:([Ob.cells (zs.map dI)]:ar)[0]? = some (.cells (zs.map dI)):=rfl;have j:od [Ob.cells (zs.map dI)] 0 (zs.length * 1)=some (zs.map dI):=Pc k (by simp);by_cases y:zs=[]
  ·subst y;have:∃p cap,q=.slice p 0 cap:=by
    rcases x.ft j with ⟨h,_⟩ | ⟨c,o,cap,s,T,r,h,_⟩ <;> exact ⟨_,_,h⟩
   obtain ⟨p,cap,rfl⟩:=this;refine (K.nil p cap w).mono ?_
   grind [bH.refl]
  ·have U:zs.length≠0:=λh=>y (Yy h);rcases x.ft j with ⟨_,e,_⟩ | ⟨c,o,cap,s,T,r,rfl,⟨X,Z⟩,ho,t,A,_⟩
   ·omega
   obtain rfl:o=0:=by omega
   have aa:c<w.heap.size:=(Cy.1 t).1;refine (K.run c 0 cap zs w (HZ R r k t (by omega)) (by omega) (by omega)).mono ?_;rintro e w' ⟨rfl,n,rfl⟩;have e0:∀w:World,grow w #[]=w:=λw=>by simp_all
   obtain ⟨E,G,L⟩:=Sz (n:=n) (os:=#[]) R r k t N (by omega);rw[e0] at E G L;refine ⟨_,M,Fz,rfl,E,?_,G⟩;have:=yW zs;exact .sl _ _ _ (by simp) (.cells ((Lib.compact zs++List.replicate (zs.length-(Lib.compact zs).length) 0).map dI)) rfl (by grind [Ob.sz]) λ_=>.inr ⟨c,0,_,T,r,rfl,rfl,⟨by omega,by omega⟩,.inl rfl,L,by simp[putCells];omega,by omega⟩
 have:=Ok.cut (garb:=garb.map dI) m (by simp_all) (by grind) (λd hd=>by grind) (by simp_all) (by simp)
 simp_all
theorem WC{ii:Nat}{d:TT ii->Int}(hd:∀a,enc ii a=[.lit (.int .i64 (d a))])(l:List (TT ii)):OB (enc ii) l=.cells ((l.map d).map dI):=by
 unfold OB;congr 1;induction l with
 |nil=>rfl
 |cons a l ih=>simp_all
theorem Sp{ii:Nat}{c:Int->TT ii}(d:∀k,enc ii (c k)=[.lit (.int .i64 k)])(l:List Int):OB (enc ii) (l.map c)=.cells (l.map dI):=by
 unfold OB;congr 1;induction l with
 |nil=>rfl
 |cons a l ih=>simp_all
theorem sort_oo{P:Program}{g ii:Nat}(K:QN P g){d:TT ii->Int}{c:Int->TT ii}(hd:∀a,enc ii a=[.lit (.int .i64 (d a))])(E:∀k,enc ii (c k)=[.lit (.int .i64 k)])(q:Nat.beq (aw ii) 1=true) :
  cW P g ⟨.mk [.p (.hd 0)] [] [.row ii] [] [] [],[.mk [] [.w 0 ii] [] [] [] []],λx=>Nt (α:=TT ii) d c x⟩:=by
 have t:=cY q;refine ⟨K.en,λx y u σ G z v A m s j r=>?_⟩;dsimp only at m s j;change dJ [It.ls ii] at x;change dJ [It.ls ii] at y;have o:some ([TV.c (.own ii 0 0 (List.length (α:=TT ii) x))],[TB.row ii x 0 0])=some (u,σ):=by rw[<-s];have e:dR (CT.items (.mk [.p (.hd 0)] [] [.row ii] [] [] [])) x=[⟨.ls ii,x⟩]:=rfl;unfold mY;rw[e];simp only[CT.pl,CT.nb,CT.out,cd,dA,kZ,zu,wY,Gb,dV,dO,DA,List.nil_append,List.getElem?_cons_zero]
 simp only[au,aX] at o;obtain ⟨rfl,rfl⟩:=o;simp only[tX,au,yB2] at j;obtain ⟨rfl,rfl⟩:=j;have p:some (([]:List TV),[TB.row ii y 1 1])=some (v,A):=by rw[<-r];have e:dR (CT.items (.mk [] [.w 0 ii] [] [] [] [])) y=[⟨.ls ii,y⟩]:=rfl;unfold mY;rw[e];simp only[CT.pl,CT.nb,CT.out,cd,dA,kZ,Gb,dV,dO,DA,List.cons_append,List.nil_append,List.getElem?_cons_zero,List.set_cons_zero,yCm]
 simp only[au,aX] at p;obtain ⟨rfl,rfl⟩:=p;change List (TT ii) at x;change List (TT ii) at y;change Nt d c x=some y at m;unfold Nt at m;rw[NL] at m;split at m
 ·rename_i h;simp only[au] at m;subst m;have:=XR K (zs:=x.map d) (by simp_all);show Ok P g [OS (aw ii) 0 x.length] [OB (enc ii) x] (.aS []) [OB (enc ii) _]
  grind [WC,Sp]
 simp_all
theorem Qb{P:Program}{g ii:Nat}(K:Bt P g){d:TT ii->Int}{c:Int->TT ii}(hd:∀a,enc ii a=[.lit (.int .i64 (d a))])(L:∀k,enc ii (c k)=[.lit (.int .i64 k)])(q:Nat.beq (aw ii) 1=true) :
  cW P g ⟨.mk [.p (.hd 0)] [] [.row ii] [] [] [],[.mk [.p (.hd 1)] [.w 0 ii] [.row ii] [] [] []],λx=>LM (α:=TT ii) d c x⟩:=by
 have v:=cY q;refine ⟨K.en,λx y A σ N z E G m t j s=>?_⟩;dsimp only at m t j;change dJ [It.ls ii] at x;change dJ [It.ls ii,It.ls ii] at y;have o:some ([TV.c (.own ii 0 0 (List.length (α:=TT ii) x))],[TB.row ii x 0 0])=some (A,σ):=by rw[<-t];have e:dR (CT.items (.mk [.p (.hd 0)] [] [.row ii] [] [] [])) x=[⟨.ls ii,x⟩]:=rfl;unfold mY;rw[e];simp only[CT.pl,CT.nb,CT.out,cd,dA,kZ,zu,wY,Gb,dV,dO,DA,List.nil_append,List.getElem?_cons_zero]
 simp only[au,aX] at o;obtain ⟨rfl,rfl⟩:=o;simp only[tX,au,yB2] at j;obtain ⟨rfl,rfl⟩:=j;have p:some ([TV.c (.own ii 1 0 (List.length (α:=TT ii) y.2))],[TB.row ii y.1 1 1,TB.row ii y.2 0 0])=some (E,G):=by rw[<-s];have e:dR (CT.items (.mk [.p (.hd 1)] [.w 0 ii] [.row ii] [] [] [])) y=[⟨.ls ii,y.1⟩,⟨.ls ii,y.2⟩]:=rfl;unfold mY;rw[e];simp only[CT.pl,CT.nb,CT.out,cd,dA,kZ,zu,wY,Gb,dV,dO,DA,List.cons_append,List.nil_append,List.getElem?_cons_zero,List.getElem?_cons_succ,List.set_cons_zero,yCm]
 simp only[au,aX] at p;obtain ⟨rfl,rfl⟩:=p;obtain ⟨u,r⟩:=y;change List (TT ii) at x;change List (TT ii) at u;change List (TT ii) at r;change LM d c x=some (u,r) at m;unfold LM at m;split at m
 ·rename_i h;simp only[au,aX] at m;obtain ⟨rfl,rfl⟩:=m;have:=Lq K (zs:=x.map d) (garb:=x.map d++[d (c 0)]) (by simp_all) (by simp);show Ok P g [OS (aw ii) 0 x.length] [OB (enc ii) x] (OS (aw ii) 1 _) [OB (enc ii) _,OB (enc ii) _]
  grind [WC,Sp]
 simp_all
end
end Go.Abs
end
section
namespace Go.Abs
section
variable[Gl]
def WK(d:List Sh)(xs:List C):Prop:=xs.length=d.length/\∀(i:Nat) t x,d[i]? = some t->xs[i]? = some x->Shaped t x
theorem WK.cons{s:Sh}{j:List Sh}{xs:List C}(h:WK (s::j) xs):∃x o,xs=x::o/\Shaped s x/\WK j o:=by
 obtain ⟨u,h⟩:=h
 match xs,u,h with
 |x::o,u,h=>exact ⟨x,o,rfl,h 0 s x rfl rfl,by simp_all,λi t y A E=>h (i+1) t y (by simp_all) (by simp_all)⟩
theorem WK.nil{xs:List C}(h:WK [] xs):xs=[]:=by simpa using h.1
variable[Y:Ty]
def shC(rec:Nat->List Sh):CC->Sh
 |.int k=>.int k
 |.bool=>.bool
 |.str=>.str
 |.sl j=>.sl (rec j)
 |.fk _=>.no
def shN:Nat->Nat->List Sh
 |0,_=>[]
 |k+1,i=>(Y.fl i).map (shC (shN k))
def shT(i:Nat):List Sh:=shN (i+1) i
theorem shC_dec{rec:Nat->List Sh}{r:(j:Nat)->TT j->List C}{c:CC}(o:∀j,c=.sl j->∀xs,WK (rec j) xs->∃a:TT j,xs=r j a){x:C}(h:Shaped (shC rec c) x):∃a:c.dn,x=tn r c a:=by
 cases c with
 |int k=>cases h with | int h=>exact ⟨_,rfl⟩
 |bool=>cases h with | bool b=>exact ⟨_,rfl⟩
 |str=>cases h with | str b=>exact ⟨_,rfl⟩
 |fk p=>cases h
 |sl j=>
  cases h with
  |sl e g m=>
   rename_i es;have:∃l:List (TT j),es=l.map (r j):=by
    clear e;induction es with
    |nil=>simp_all
    |cons y es ih=>obtain ⟨a,q⟩:=o j rfl y ⟨g y (by simp),m y (by simp)⟩;obtain ⟨l,e⟩:=ih (λz d=>g z (by simp[d])) (λz d=>m z (by simp[d]));exact ⟨a::l,by simp_all⟩
   obtain ⟨l,rfl⟩:=this;exact ⟨l,rfl⟩
theorem shL_dec{rec:Nat->List Sh}{r:(j:Nat)->TT j->List C}:∀(cs:List CC),(∀j,CC.sl j∈cs->∀xs,WK (rec j) xs->∃a:TT j,xs=r j a)->∀xs,WK (cs.map (shC rec)) xs->∃a:aS cs,xs=nK r cs a:=by
 intro cs;induction cs with
 |nil=>intro _ xs h;exact ⟨(),h.nil⟩
 |cons c cs ih=>intro d xs h;obtain ⟨x,g,rfl,k,m⟩:=WK.cons h;obtain ⟨a,rfl⟩:=shC_dec (λj e=>d j (by simp_all)) k;obtain ⟨b,rfl⟩:=ih (λj e=>d j (lI _ e)) g m;exact ⟨(a,b),rfl⟩
theorem shN_dec:∀(k i:Nat),i<k->∀xs,WK (shN k i) xs->∃a:TT i,xs=LC k i a:=by
 intro k;induction k with
 |zero=>omega
 |succ k ih=>intro i e xs h;obtain ⟨a,rfl⟩:=shL_dec (rec:=shN k) (r:=LC k) (Y.fl i) (λj d=>ih j (by have:=Y.dn i j d;omega)) xs h;exact ⟨Y.mkt i a,by grind [LC,Ty.pm]⟩
theorem sh_dec(i:Nat){xs:List C}(h:WK (shT i) xs):∃a:TT i,xs=enc i a:=shN_dec (i+1) i (by omega) xs h
theorem arg_st(i:Nat){w:World}{xs:List C}{vs:Array Value}(h:FX w (shT i) xs vs.toList):∃a:TT i,V [] (λ_=>none) (λc=>c<w.heap.size) w (dm.enc (.st i) a) (.agg vs):=by have d:=V.UR h (σ:=[]) (M:=λ_=>none);obtain ⟨a,rfl⟩:=sh_dec i ⟨h.1,h.2.2.1⟩;exact ⟨a,d⟩
open Go.RowKit in
theorem aaa{P:Program}{g:FuncId}{ds:List D}(h:Pure P g ds (B true)){w:World}{vs:Array Value}(hs:vs.size=ds.length)
  (m:∀(i:Nat) d v,ds[i]? = some d->vs[i]? = some v->V [] (λ_=>none) (λc=>c<w.heap.size) w d v) (p:Gl.ok (λc=>c<w.heap.size) w) :
  Calls P g vs w λe o=>e=.returned (.bool true)/\Below w.heap.size w o:=by
 refine (h.2 _ _ w vs (Rel.start w p) hs m).mono λe o q=>?_;obtain ⟨v,s,r,rfl,t,m,j⟩:=q;exact ⟨by rw[m.cj],j.out.1,j.out.2.1,j.out.2.2,j.size,λk hk=>(j.fz k hk).2⟩
end
end Go.Abs
end
