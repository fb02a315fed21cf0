/- DfwPu, DfwPv, DfwPz, DfwPy, DfwKy, DfwDl, DfwAb, DfwAd, DfwAe, DfwIn, DfwIo, DfwIs, DfwSo, DfwRw -/
import Derived.Test.YtdfbphphacpkdaaGreatFwF
import Derived.Lib.SlKeysI
import Derived.KernelRfl
import Derived.Test.YtdfbphphacpkdaaGreatFwC
import Derived.Shelf.Spec.SlicesInsertGrow
import Derived.Test.YtdfbphphacpkdaaGreatFwA
import Derived.Test.YtdfbphphacpkdaaGreatFwD
import Derived.Lib.SlicesCompact
set_option linter.all false
open Go.IntKind (i64 u64)
section
namespace Go.Abs
noncomputable section
variable[Gl][Y:Ty]
def cV(P:Program)(g:FuncId)(s:dq):Prop:=aS P g=true/\∀(x:dA s.Ah.items)(y:qa s.OK)(e:List TV)(σ:TH)(d:CT)(z:dA d.items)(h:List TV)(j:TH),
 s.f x=some y->mO s.Ah [] x=some (e,σ)->tq s.OK y=some ⟨d,z⟩->mO d σ z=some (h,j)->Ok P g (e.map eD) (σ.map TB.er) (one (h.map eD)) (j.map TB.er)
theorem D.Cw(ρ:Nat->Nat){d:D}(h:d.low 0=true):d.dX ρ=d:=by
 have j:∀(k:Nat)(d:D),SizeOf.sizeOf d<k->d.low 0=true->d.dX ρ=d:=by
  intro k;induction k with
  |zero=>omega
  |succ k ih=>
   have cL:∀(ds:List D),SizeOf.sizeOf ds<k+1->D.low.cL 0 ds=true->D.dX.wo ρ ds=ds:=by
    intro ds;induction ds with
    |nil=>intro _ _;rfl
    |cons x ds u=>
     intro hs h;simp only[D.low.cL,bG,List.cons.sizeOf_spec] at h hs
     grind [D.dX.wo]
   intro d hs h;cases d with
   |c x=>rfl
   |any=>rfl
   |ptr b o s=>grind [D.low]
   |sl b o l e s=>grind [D.low]
   |mp b=>grind [D.low]
   |fn f a b=>
    simp only[D.low,bG,D.fn.sizeOf_spec] at h hs
    grind [D.dX]
   |agg ds=>grind [D.low,D.dX]
   |aQ ds=>grind [D.low,D.dX]
 exact j (SizeOf.sizeOf d+1) d (Nat.lt_succ_self _) h
theorem NV(ρ:Nat->Nat)(l:List C):(l.map D.c).map (D.dX ρ)=l.map D.c:=by rw[UW];rfl
theorem LZ(ρ:Nat->Nat)(c:CC)(a:c.dn):(qX c a).er.dX ρ=(qX c a).er:=by rw[ld];rfl
theorem exp_ren(ρ:Nat->Nat)(i:Nat)(a:TT i):((exp i a).map TC.er).map (D.dX ρ)=(exp i a).map TC.er:=by rw[vp,UW];rfl
def Dj(ρ:Nat->Nat)(x y:TB):Prop:=(∃w e g d,x=.cells w e/\y=.cells g d/\aJ (λ(a b:Nat×TC)=>b.2.er=a.2.er.dX ρ) e d)∨us x y
structure iG (ρ:Nat->Nat) (n:Nat) (σ0 σ:TH):Prop where
 len:σ0.length=n
 bs:∀i,i<n->∃x y,σ0[i]? = some x/\σ[ρ i]? = some y/\Dj ρ x y
variable{ρ:Nat->Nat}{n m0:Nat}{σ0 σ:TH}
theorem iG.set(h:iG ρ n σ0 σ)(inj:∀i j,i<n->j<n->ρ i=ρ j->i=j){b:Nat}(E:b<n){x y:TB}(s:Dj ρ x y):iG ρ n (σ0.set b x) (σ.set (ρ b) y):={
 len:=by rw[W_];exact h.len
 bs:=λi o=>by
  by_cases e:i=b
  ·subst e;obtain ⟨u,A,h1,h2,_⟩:=h.bs i o
   grind
  ·obtain ⟨u,A,h1,h2,G⟩:=h.bs i o
   grind }
theorem iG.row(h:iG ρ n σ0 σ){b i:Nat}(u:b<n){l:List (TT i)}{A E:Nat}(G:σ[ρ b]? = some (.row i l A E)):∃j o,σ0[b]? = some (.row i l j o):=by
 obtain ⟨x,y,Z,s,K⟩:=h.bs b u;rw[G] at s;simp only[au] at s;subst s;rcases K with ⟨_,_,_,_,_,e,_⟩ | ⟨i',l',O,R,U,X,e1,e2⟩ | ⟨_,_,_,_,_,_,e⟩
 ·simp at e
 ·grind
 simp_all
theorem iG.mp(h:iG ρ n σ0 σ){b j:Nat}{st:Bool}(s:b<n){l:List (Int×TT j)}{v:Nat}(u:σ[ρ b]? = some (.mp j st l v)):∃A,σ0[b]? = some (.mp j st l A):=by
 obtain ⟨x,y,K,o,E⟩:=h.bs b s;rw[u] at o;simp only[au] at o;subst o;rcases E with ⟨_,_,_,_,_,e,_⟩ | ⟨_,_,_,_,_,_,_,e⟩ | ⟨O,G,R,U,X,Z,e2⟩
 ·simp at e
 ·simp at e
 grind
theorem iG.cells(h:iG ρ n σ0 σ){b:Nat}(u:b<n){w:Nat}{cs:List (Nat×TC)}(A:σ[ρ b]? = some (.cells w cs)):∃s j,σ0[b]? = some (.cells s j)/\aJ (λ(a b:Nat×TC)=>b.2.er=a.2.er.dX ρ) j cs:=by
 obtain ⟨x,y,K,o,E⟩:=h.bs b u;rw[A] at o;simp only[au] at o;subst o;rcases E with ⟨s,j,O,G,R,U,X⟩ | ⟨_,_,_,_,_,_,_,e⟩ | ⟨_,_,_,_,_,_,e⟩
 ·grind
 ·simp at e
 simp_all
theorem IW{p q:CP}{ds r:List kl}{y:TC}(j:rCP ρ n p q=true)(h:iG ρ n σ0 σ)(g:wu σ q ds=some (y,r)):∃v,wu σ0 p ds=some (v,r)/\y.er=v.er.dX ρ:=by
 unfold rCP at j;split at j
 ·rename_i a b;have:=of_decide_eq_true j;subst this;cases ds with
  |nil=>grind [wu]
  |cons d ds=>
   simp only[wu] at g ⊢
   grind [LZ]
 ·cases ds with
  |nil=>grind [wu]
  |cons d ds=>
   simp only[wu] at g ⊢;split at g
   ·rename_i L N;simp only[au,aT] at g;obtain ⟨rfl,rfl⟩:=g;exact ⟨_,rfl,rfl⟩
   simp_all
 ·rename_i b u;simp only[bG] at j;have e:=cO j.1;have k:=tM.mp j.2;subst e;simp only[wu] at g ⊢;split at g
  ·rename_i i l O R hs;simp only[au,aT] at g;obtain ⟨rfl,rfl⟩:=g;obtain ⟨x,A,E⟩:=h.row k hs;rw[E];exact ⟨_,rfl,rfl⟩
  simp_all
 ·rename_i b o s u S G;simp only[bG] at j;obtain ⟨e,k,m,t⟩:=j;have e:=cO e;have k:=tM.mp k;have m:=cO m;have t:=cO t;subst e m t;simp only[wu] at g ⊢;split at g
  ·simp only[au,aT] at g;obtain ⟨rfl,rfl⟩:=g;rw[h.len,tM.mpr k];exact ⟨_,rfl,rfl⟩
  simp_all
 ·rename_i b u;simp only[bG] at j;have e:=cO j.1;have k:=tM.mp j.2;subst e;simp only[wu] at g ⊢;split at g
  ·simp only[au,aT] at g;obtain ⟨rfl,rfl⟩:=g;rw[h.len,tM.mpr k];exact ⟨_,rfl,rfl⟩
  simp_all
 ·rename_i f b s T u G;simp only[bG] at j;obtain ⟨e,k,m,t⟩:=j;have e:=cO e;have k:=tM.mp k;have m:=cO m;have t:=cO t;subst e m t;simp only[wu] at g ⊢;split at g
  ·simp only[au,aT] at g;obtain ⟨rfl,rfl⟩:=g;rw[h.len,tM.mpr k];exact ⟨_,rfl,rfl⟩
  simp_all
 ·rename_i d U;have:=VK j;subst this;simp only[wu] at g ⊢;split at g
  ·rename_i K;simp only[au,aT] at g;obtain ⟨rfl,rfl⟩:=g;exact ⟨_,rfl,(D.Cw ρ K).symm⟩
  simp_all
 simp_all
theorem LH:∀{ps g:List CP}{ds r:List kl}{j:List TC},PA ρ n ps g=true->iG ρ n σ0 σ->zR σ g ds=some (j,r)->∃d,zR σ0 ps ds=some (d,r)/\aJ (λ(y m:TC)=>y.er=m.er.dX ρ) j d:=by
 intro ps;induction ps with
 |nil=>
  intro g ds r j k h e;cases g with
  |nil=>simp only[zR,au,aT] at e;obtain ⟨rfl,rfl⟩:=e;exact ⟨[],rfl,.nil⟩
  |cons _ _=>grind [PA]
 |cons p ps ih=>
  intro g ds r j k h e;cases g with
  |nil=>grind [PA]
  |cons q g=>
   simp only[PA,bG] at k;simp only[zR] at e;split at e
   ·rename_i x v o;split at e
    ·rename_i A E s;simp only[au,aT] at e;obtain ⟨rfl,rfl⟩:=e;obtain ⟨m,G,t⟩:=IW k.1 h o;obtain ⟨d,K,u⟩:=ih k.2 h s;exact ⟨m::d,by grind [zR],.cons t u⟩
    simp_all
   simp_all
theorem ZX{a b:de}(h:eqVC a b=true):a=b:=by
 unfold eqVC at h;split at h
 ·simp_all
 ·simp_all
 ·simp_all
 ·simp_all
 simp_all
theorem aJ.OZ{o j:List TC}(h:aJ (λ(y s:TC)=>y.er=s.er.dX ρ) o j):o.map TC.er=D.dX.wo ρ (j.map TC.er):=by
 induction h with
 |nil=>rfl
 |cons h _ ih=>grind [D.dX.wo]
theorem ZL{p q:RO}{ds r:List kl}{v:TV}(j:rRO ρ n p q=true)(h:iG ρ n σ0 σ)(e:yK σ q ds=some (v,r)):∃t,yK σ0 p ds=some (t,r)/\eD v=(eD t).dX ρ:=by
 unfold rRO at j;split at j
 ·rename_i a b;have:=ZX j;subst this;cases ds with
  |nil=>grind [yK]
  |cons d ds=>
   cases a with
   |c c=>
    simp only[yK] at e ⊢;split at e
    ·simp only[au,aT] at e;obtain ⟨rfl,rfl⟩:=e;exact ⟨_,rfl,(LZ ρ _ _).symm⟩
    simp_all
   |st i=>
    simp only[yK] at e ⊢;split at e
    ·simp only[au,aT] at e;obtain ⟨rfl,rfl⟩:=e;refine ⟨_,rfl,?_⟩
     grind [eD,D.dX,CZ,exp_ren]
    simp_all
   |fp i=>
    simp only[yK] at e ⊢;split at e
    ·simp only[au,aT] at e;obtain ⟨rfl,rfl⟩:=e;exact ⟨_,rfl,rfl⟩
    simp_all
   |k g=>grind [yK]
 ·rename_i a b;simp only[yK] at e;split at e
  ·rename_i x u m;simp only[au,aT] at e;obtain ⟨rfl,rfl⟩:=e;obtain ⟨o,y,s⟩:=IW j h m;exact ⟨.c o,by grind [yK],s⟩
  simp_all
 ·rename_i a b;simp only[yK] at e;split at e
  ·rename_i A u m;simp only[au,aT] at e;obtain ⟨rfl,rfl⟩:=e;obtain ⟨o,y,s⟩:=LH j h m;refine ⟨.agg o,by grind [yK],?_⟩;simp only[eD,D.dX,s.OZ]
  simp_all
 simp_all
theorem XV:∀{ps e:List RO}{ds r:List kl}{vs:List TV},SZ ρ n ps e=true->iG ρ n σ0 σ->ky σ e ds=some (vs,r)->∃g,ky σ0 ps ds=some (g,r)/\aJ (λ(v m:TV)=>eD v=(eD m).dX ρ) vs g:=by
 intro ps;induction ps with
 |nil=>
  intro e ds r o j h d;cases e with
  |nil=>simp only[ky,au,aT] at d;obtain ⟨rfl,rfl⟩:=d;exact ⟨[],rfl,.nil⟩
  |cons _ _=>grind [SZ]
 |cons p ps ih=>
  intro e ds r o j h d;cases e with
  |nil=>grind [SZ]
  |cons q e=>
   simp only[SZ,bG] at j;simp only[ky] at d;split at d
   ·rename_i x E s;split at d
    ·rename_i G K t;simp only[au,aT] at d;obtain ⟨rfl,rfl⟩:=d;obtain ⟨u,L,y⟩:=ZL j.1 h s;obtain ⟨k,N,A⟩:=ih j.2 h t;exact ⟨u::k,by grind [ky],.cons y A⟩
    simp_all
   simp_all
theorem SH(inj:∀i j,i<m0->j<m0->ρ i=ρ j->i=j):∀{ps s:List PC}{σ0 σ x:TH}{ds r:List kl},Ay ρ m0 n ps s=true->iG ρ m0 σ0 σ->bY σ s ds=some (x,r)->∃g,bY σ0 ps ds=some (g,r)/\iG ρ m0 g x:=by
 intro ps;induction ps with
 |nil=>
  intro s σ0 σ x ds r y h m;cases s with
  |nil=>simp only[bY,au,aT] at m;obtain ⟨rfl,rfl⟩:=m;exact ⟨σ0,rfl,h⟩
  |cons _ _=>grind [Ay]
 |cons p ps ih=>
  intro s σ0 σ x ds r y h m;cases s with
  |nil=>grind [Ay]
  |cons q s=>
   simp only[Ay,bG] at y;obtain ⟨k,u⟩:=y;unfold rPC at k;split at k
   ·grind [bY]
   ·rename_i b i K i';simp only[bG] at k;obtain ⟨e,o,t⟩:=k;have e:=cO e;have o:=tM.mp o;have t:=cO t;subst e t;cases ds with
    |nil=>grind [bY]
    |cons d ds=>
     simp only[bY] at m;split at m
     ·rename_i l j L N O R A;split at m
      ·rename_i S;have:=cO S;subst this;obtain ⟨E,G,T⟩:=h.row o A;obtain ⟨g,U,X⟩:=ih u (h.set inj o (.inr (.inl ⟨j,l,E+1,G+1,N+1,O+1,rfl,rfl⟩))) m
       grind [bY]
      simp_all
     simp_all
   ·rename_i b j st K j' Z;simp only[bG,my] at k;obtain ⟨e,o,t,e3⟩:=k;have e:=cO e;have o:=tM.mp o;have t:=cO t;subst e t e3;cases ds with
    |nil=>grind [bY]
    |cons d ds=>
     simp only[bY] at m;split at m
     ·rename_i l j0 aa L v R A;obtain ⟨v0,T⟩:=h.mp o A;obtain ⟨g,U,X⟩:=ih u (h.set inj o (.inr (.inr ⟨j,st,l,v0+1,v+1,rfl,rfl⟩))) m
      grind [bY]
     simp_all
   simp_all
theorem WP:∀{ps g:List NB}{ds r:List kl}{l:TH},yU ρ n ps g=true->du g ds=some (l,r)->du ps ds=some (l,r):=by
 intro ps;induction ps with
 |nil=>grind [yU]
 |cons p ps ih=>
  intro g ds r l h k;cases g with
  |nil=>grind [yU]
  |cons q g=>
   simp only[yU,bG] at h;obtain ⟨e,j⟩:=h;unfold rNB at e;split at e
   ·grind [du]
   ·have:=cO e;subst this;cases ds with
    |nil=>grind [du]
    |cons d ds=>grind [du]
   ·simp only[bG,my] at e;have:=cO e.1;subst this;have:=e.2;subst this;cases ds with
    |nil=>grind [du]
    |cons d ds=>grind [du]
   simp_all
theorem aJ.set{α o:Type}{R:α->o->Prop}{l:List α}{m:List o}(h:aJ R l m){a:α}{b:o}(s:R a b):∀j:Nat,aJ R (l.set j a) (m.set j b):=by
 induction h with
 |nil=>intro j;exact .nil
 |cons h r ih=>
  intro j;cases j with
  |zero=>exact .cons s r
  |succ j=>exact .cons h (ih j)
theorem YE(inj:∀i j,i<m0->j<m0->ρ i=ρ j->i=j){k s:TH}(hs:iG ρ n k s):∀{ps m:List PC}{σ0 σ t:TH}{ds r:List kl},Ay ρ m0 n ps m=true->iG ρ m0 σ0 σ->dO s m σ ds=some (t,r)->∃d,dO k ps σ0 ds=some (d,r)/\iG ρ m0 d t:=by
 intro ps;induction ps with
 |nil=>
  intro m σ0 σ t ds r v h o;cases m with
  |nil=>simp only[dO,au,aT] at o;obtain ⟨rfl,rfl⟩:=o;exact ⟨σ0,rfl,h⟩
  |cons _ _=>grind [Ay]
 |cons p ps ih=>
  intro m σ0 σ t ds r v h o;cases m with
  |nil=>grind [Ay]
  |cons q m=>
   simp only[Ay,bG] at v;obtain ⟨g,y⟩:=v;unfold rPC at g;split at g
   ·rename_i b j p T U X;simp only[bG] at g;obtain ⟨e,u,A,G⟩:=g;have e:=cO e;have u:=tM.mp u;have A:=cO A;subst e A;simp only[dO] at o;split at o
    ·rename_i x Z w cs K L;obtain ⟨N,a1,O⟩:=IW G hs K;obtain ⟨E,R,h3,S⟩:=h.cells u L;obtain ⟨d,b1,b2⟩:=ih y (h.set inj u (.inl ⟨E+1,_,w+1,_,rfl,rfl,S.set (a:=(E+1,N)) (b:=(w+1,x)) O j⟩)) o
     grind [dO]
    simp_all
   ·grind [dO]
   ·grind [dO]
   simp_all
theorem WQ{e v:TH}(hs:iG ρ n e v):∀{ps j:List NB}{g l:TH}{ds:List kl},yU ρ n ps j=true->(∀b∈g,Dj ρ b b)->dH v j g ds=some l->∃s,dH e ps g ds=some s/\aJ (Dj ρ) s l:=by
 intro ps;induction ps with
 |nil=>
  intro j g l ds A y d;cases j with
  |nil=>simp only[dH,au] at d;subst d;exact ⟨[],rfl,.nil⟩
  |cons _ _=>grind [yU]
 |cons p ps ih=>
  intro j g l ds A y d;cases j with
  |nil=>grind [yU]
  |cons q j=>
   simp only[yU,bG] at A;obtain ⟨k,m⟩:=A;cases g with
   |nil=>grind [dH]
   |cons b g=>
    have o:∀b∈g,Dj ρ b b:=λx N=>y x (oD _ N);unfold rNB at k;split at k
    ·rename_i O R;simp only[dH] at d;split at d
     ·rename_i U r K;split at d
      ·rename_i L t;simp only[au] at d;subst d;obtain ⟨E,S,T⟩:=LH k hs K;obtain ⟨s,G,u⟩:=ih m o t;refine ⟨.cells 0 (E.map λx=>(0,x))::s,by grind [dH],.cons (.inl ⟨0,_,0,_,rfl,rfl,?_⟩) u⟩;clear G u S K t ih;induction T with
       |nil=>exact .nil
       |cons h _ ih=>exact .cons h ih
      simp_all
     simp_all
    ·simp only[dH] at d;split at d
     ·rename_i L t;simp only[au] at d;subst d;obtain ⟨s,G,u⟩:=ih m o t;exact ⟨_,by grind [dH],.cons (y b (rX ..)) u⟩
     simp_all
    ·simp only[dH] at d;split at d
     ·rename_i L t;simp only[au] at d;subst d;obtain ⟨s,G,u⟩:=ih m o t;exact ⟨_,by grind [dH],.cons (y b (rX ..)) u⟩
     simp_all
    simp_all
theorem Dj.new{o:List NB}{ds r:List kl}{l:TH}(h:du o ds=some (l,r)):∀b∈l,Dj ρ b b:=by
 intro b x;obtain ⟨k,hk⟩:=yB3 x;cases b with
 |cells w A=>have:=(yk h k).1 w A hk;subst this;exact .inl ⟨w,[],w,[],rfl,rfl,.nil⟩
 |row i l s u=>exact .inr (.inl ⟨i,l,s,u,s,u,rfl,rfl⟩)
 |mp j st l v=>exact .inr (.inr ⟨j,st,l,v,v,rfl,rfl⟩)
theorem iG.YI(h:iG ρ m0 σ0 σ){j l:TH}(s:aJ (Dj ρ) j l)(u:∀k,ρ (m0+k)=σ.length+k)(lt:∀i,i<m0->ρ i<σ.length):iG ρ (m0+j.length) (σ0++j) (σ++l):={
 len:=by rw[AW,h.len]
 bs:=λi A=>by
  rcases si i m0 with o | o
  ·obtain ⟨x,y,a,b,c⟩:=h.bs i o
   grind
  ·obtain ⟨k,rfl⟩:=yB6 o;have hk:k<j.length:=by omega
   obtain ⟨y,a,b⟩:=s.get k _ (eH hk)
   grind [iG.len] }
theorem aJ.refl'{α:Type}{R:α->α->Prop}{l:List α}(h:∀b∈l,R b b):aJ R l l:=by
 induction l with
 |nil=>exact .nil
 |cons a l ih=>exact .cons (h a (rX ..)) (ih λb j=>h b (oD _ j))
theorem XC{d ct:CT}{F:TH}{u:List TV}{ds:List kl}{x:dA d.items}(inj:∀i j,i<m0->j<m0->ρ i=ρ j->i=j)(y:rCT ρ m0 d ct=true)(hs:iG ρ m0 σ0 σ)(K:∀k,ρ (m0+k)=σ.length+k)(lt:∀i,i<m0->ρ i<σ.length)
  {σD:ar} (H:RH σ σD) (L:Laid ct σ ds u F) (hd:dL d.items x=ds) :
  ∃e F0,mO d σ0 x=some (e,F0)/\aJ (λ(v N:TV)=>eD v=(eD N).dX ρ) u e/\iG ρ (m0+d.nb.length) F0 F:=by
 simp only[rCT,bG] at y;obtain ⟨q,g,h⟩:=y;have A:=gJ L.h1 H;have C:=kW L.h4;obtain ⟨m,X,E⟩:=SH inj g hs L.h1;have r:=WP h L.h2;have o:L.nb.length=d.nb.length:=Dy r;have s:iG ρ (m0+d.nb.length) (m++L.nb) (L.iA++L.nb):=by rw[<-o];exact E.YI (aJ.refl' (Dj.new r)) (by grind [yE.len]) (by grind [yE.len])
 obtain ⟨e,c1,O⟩:=XV q s L.h3;obtain ⟨p,Z,R⟩:=YE inj s g E L.h4;obtain ⟨G,S,T⟩:=WQ s h (Dj.new r) L.h5;have t:G.length=d.nb.length:=(zu S).1;refine ⟨e,p++G,?_,O,?_⟩
 ·grind [mO]
 ·have U:F=L.aA++L.l:=L.e;rw[U,<-t];exact R.YI T (by rw[C.len,A.len];exact K) (by rw[C.len,A.len];exact lt)
end
end Go.Abs
end
section
namespace Go.Abs
noncomputable section
variable[Gl][Y:Ty]
theorem relocH{P:Program}{g:FuncId}{ds L:List D}{H p:ar}{r:D}(ok:Ok P g L H r p)(af:H.length<=p.length)
  (aa:p.all (Ob.low p.length)=true) (hr:r.low p.length=true)
  {σ σ':ar} {ρ ρ0:Nat->Nat} (ag:∀i,i<H.length->ρ0 i=ρ i) (N:QR 0 σ H ρ0 (λ_=>False)) (hd:aJ (dh σ H ρ0 (λ_=>False)) ds L)
  (inj:∀i j,i<p.length->j<p.length->ρ i=ρ j->i=j) (hi:∀i,H.length<=i->i<p.length->σ.length<=ρ i)
  (s2:∀i,i<p.length->σ'[ρ i]? = (p[i]?).map (Ob.dX ρ)) (s3:∀j,(∀i,i<p.length->ρ i≠j)->σ'[j]? = σ[j]?) :
  Ok P g ds σ (r.dX ρ) σ':=by
 intro M Fz w vs R hs hv
 let G:Nat->Option Nat:=mN H.length ρ0 M
 have eF:∀Fz:Nat->Prop,fzN (λ_=>False) M Fz=Fz:=λFz=>by
  funext c;refine propext ⟨λh=>?_,.inl⟩;rcases h with h | ⟨b,h,_⟩
  ·exact h
  simp_all
 have ak:∀i,i<H.length->G i=M (ρ i):=λi h=>by simp only[G,mN,h,if_true,ag i h]
 have y:∀i c,G i=some c->i<H.length/\M (ρ i)=some c:=λi c h=>by grind [mN]
 have R0:Rel H G Fz w:=by
  have:=N.rel R
  grind
 refine (ok G Fz w vs R0 (by rw[hs,hd.len]) (λi d v a b=>by
  obtain ⟨d1,O,h2⟩:=hd.get' i d a;have:=h2 M Fz w v R (hv i d1 v O b)
  grind)).mono λe w' he=>?_
 obtain ⟨v,M1,S,rfl,T,an,u⟩:=he;have av:∀i c,M1 i=some c->i<p.length:=λi c h=>by
  obtain ⟨_,ob,o,h2,_⟩:=T.blk i c h
  grind
 let m:Nat->Option Nat:=λj=>(List.range p.length).find? λi=>ρ i == j
 have s:∀i,i<p.length->m (ρ i)=some i:=λi h=>by
  cases e:m (ρ i) with
  |none=>grind
  |some k=>grind
 have q:∀j i,m j=some i->i<p.length/\ρ i=j:=λj i e=>⟨yBM.1 (yBh e),by grind⟩;have t:∀j,m j=none->∀i,i<p.length->ρ i≠j:=λj e i h=>by grind
 let U:Nat->Option Nat:=λj=>match m j with | some i=>M1 i | none=>M j
 have m1:∀j i,m j=some i->U j=M1 i:=λj i h=>by grind
 have m2:∀j,m j=none->U j=M j:=λj h=>by grind
 have ab:∀i,i<p.length->U (ρ i)=M1 i:=λi h=>m1 _ _ (s i h);have apart:∀j c b,m j=none->M j=some c->G b≠some c:=λj c b O h2 A=>by obtain ⟨hb,A⟩:=y b c A;exact t j O b (by omega) (R.inj _ _ _ A h2)
 have lt:∀j c,M j=some c->c<w.heap.size:=λj c h=>by
  obtain ⟨_,_,o,_,A,_⟩:=R.blk j c h
  grind
 have ad:bD σ M Fz w σ' U S w':={
  size:=u.size
  frame:=λc hc hn=>u.frame c hc λb hb=>hn (ρ b) (y b c hb).2
  kK:=λj c h=>by
   cases e:m j with
   |some i=>
    rw[m1 j i e] at h;rcases u.kK i c h with ⟨b0,x⟩ | x
    ·grind
    omega
   |none=>grind
  fz:=u.fz
  nQ:=λc h=>by
   rcases u.nQ c h with x | ⟨b,x⟩ | x
   ·grind
   ·grind
   omega
  pP:=u.pP
  keep:=λj ob h=>by
   cases e:m j with
   |some i=>
    obtain ⟨O,h2⟩:=q j i e;have hj:j<σ.length:=(gg.1 h).1;have X:i<H.length:=by grind
    obtain ⟨q1,q2,q3,q4,q5⟩:=N.sz i X;rw[ag i X,h2,h] at q3;simp only[au] at q3;subst q3;obtain ⟨ax,h4,h5,h6⟩:=u.keep i q2 q4
    grind [Ob.ry]
   |none=>grind
  out:=u.out }
 have R2:Rel σ' U S w':={
  blk:=λj c h=>by
   cases e:m j with
   |some i=>rw[m1 j i e] at h;obtain ⟨O,h2⟩:=q j i e;obtain ⟨A,ob,o,h4,h5,h6⟩:=T.blk i c h;exact ⟨A,ob.dX ρ,o,by grind,h5,bU.LW ab s2 (iB.1 aa _ (Am h4)) h6⟩
   |none=>
    rw[m2 j e] at h;obtain ⟨A,ob,o,h4,h5,h6⟩:=R.blk j c h;refine ⟨λhf=>?_,ob,o,by grind,by rw[u.frame c (lt j c h) λb=>apart j c b e h];exact h5,h6.mono ad⟩;rcases u.nQ c hf with x | ⟨b,x⟩ | x
    ·grind
    ·grind
    grind
  inj:=λj K c h E=>by
   cases e:m j with
   |some i=>
    rw[m1 j i e] at h;cases Z:m K with
    |some i'=>
     rw[m1 K i' Z] at E;have:=T.inj i i' c h E
     grind
    |none=>
     rw[m2 K Z] at E;rcases u.kK i c h with ⟨b0,x⟩ | x
     ·grind
     grind
   |none=>
    rw[m2 j e] at h;cases Z:m K with
    |some i'=>
     rw[m1 K i' Z] at E;rcases u.kK i' c E with ⟨b0,x⟩ | x
     ·grind
     grind
    |none=>rw[m2 K Z] at E;exact R.inj _ _ _ h E
  fz:=T.fz
  gl:=T.gl }
 grind [V.LW]
theorem castO{α d:Type}(e:α=d){o:Option α}{y:d}(h:cast (Ja Option e) o=some y):∃g,o=some g/\HEq g y:=by grind
theorem HN{i j:List It}(e:i=j){x:dA i}{y:dA j}(h:HEq x y):dL i x=dL j y:=by grind
theorem sum_heq{A B d g:Type}(e:A=d)(e':B=g){x:A ⊕ B}{y:d ⊕ g}(h:HEq x y):(∃a j,x=.inl a/\y=.inl j/\HEq a j)∨(∃b k,x=.inr b/\y=.inr k/\HEq b k):=by grind
theorem YR:∀{a b:List CT},a.map CT.items=b.map CT.items->∀{j:qa a}{y:qa b}{ct:CT}{x:dA ct.items},HEq j y->tq b y=some ⟨ct,x⟩ ->
  ∃(i:Nat)(g:CT)(k:dA g.items),tq a j=some ⟨g,k⟩/\a[i]? = some g/\b[i]? = some ct/\dL g.items k=dL ct.items x:=by
 intro a;induction a with
 |nil=>grind
 |cons c a ih=>
  intro b e j y ct x m hs;cases b with
  |nil=>simp at e
  |cons d b=>
   simp only[tn,yBP] at e;cases a with
   |nil=>
    cases b with
    |cons _ _=>simp at e
    |nil=>simp only[tq,au,ZD] at hs;obtain ⟨rfl,hs⟩:=hs;cases hs;exact ⟨0,c,j,rfl,rfl,rfl,HN e.1 m⟩
   |cons s a=>
    cases b with
    |nil=>simp at e
    |cons t b=>
     rcases sum_heq (by rw[e.1]) (Iy e.2) m with ⟨u,v,rfl,rfl,h⟩ | ⟨u,v,rfl,rfl,h⟩
     ·simp only[tq,au,ZD] at hs;obtain ⟨rfl,hs⟩:=hs;cases hs;exact ⟨0,c,u,rfl,rfl,rfl,HN e.1 h⟩
     ·obtain ⟨i,g,k,o,p,q,r⟩:=ih e.2 h hs;exact ⟨i+1,g,k,o,p,q,r⟩
theorem WS{ρ:Nat->Nat}{m0:Nat}:∀{a b:List CT},rCTs ρ m0 a b=true->∀(i:Nat) c d,a[i]? = some c->b[i]? = some d->rCT ρ m0 c d=true:=by
 intro a;induction a with
 |nil=>simp_all
 |cons x a ih=>
  intro b h i c d e g;cases b with
  |nil=>grind
  |cons y b=>
   simp only[rCTs,bG] at h
   grind
theorem Vi{ρ:Nat->Nat}{m0 n:Nat}:∀{ps e:List PC},Ay ρ m0 n ps e=true->∀q∈e,∃b,b<m0/\q.blk=ρ b:=by
 intro ps;induction ps with
 |nil=>grind [Ay]
 |cons p ps ih=>
  intro e h q g;cases e with
  |nil=>grind
  |cons j e=>
   simp only[Ay,bG] at h;rcases gn.1 g with rfl | g
   ·have d:=h.1;unfold rPC at d;split at d
    ·simp only[bG] at d;exact ⟨_,tM.mp d.2.1,(cO d.1).symm⟩
    ·simp only[bG] at d;exact ⟨_,tM.mp d.2.1,(cO d.1).symm⟩
    ·simp only[bG] at d;exact ⟨_,tM.mp d.2.1,(cO d.1).symm⟩
    simp_all
   grind
theorem Xm{x y:TC}(d:x=.d (.c (.lit (.slice none 0 0))))(h:(!(yj x) || yj y)=true):x=y:=by
 subst d;simp only[yj,NE,Bool.false_or] at h
 grind
theorem ZQ:∀{xs d:List (Nat×TC)},Yd.exC xs d=true->∀(j:Nat) x y,xs[j]? = some x->d[j]? = some y->(!(yj x.2) || yj y.2)=true:=by
 intro xs;induction xs with
 |nil=>simp_all
 |cons a xs ih=>
  intro d h j x y e g;cases d with
  |nil=>grind
  |cons b d=>
   obtain ⟨_,a⟩:=a;obtain ⟨_,b⟩:=b;simp only[Yd.exC,bG] at h
   grind
theorem exN_get{σ:TH}{ρ:List (Nat×Nat)}:∀{d:TH}{e:Nat},Yd σ ρ e d=true->∀(i:Nat) w g k xs,d[i]? = some (.cells w g)->σ[(pd (e+i) ρ).getD 0]? = some (.cells k xs)->Yd.exC xs g=true:=by
 intro d;induction d with
 |nil=>simp_all
 |cons b d ih=>
  intro e h i w g k xs j m;cases i with
  |zero=>
   simp only[List.getElem?_cons_zero,au] at j;subst j;simp only[Yd,bG] at h
   simp_all
  |succ i=>
   simp only[List.getElem?_cons_succ] at j;have o:Yd σ ρ (e+1) d=true:=by
    cases b with
    |cells w p=>simp only[Yd,bG] at h;exact h.2
    |row=>exact h
    |mp=>exact h
   grind
theorem us.symm{x y:TB}(h:us x y):us y x:=by
 rcases h with ⟨i,l,u,A,o,s,rfl,rfl⟩ | ⟨j,st,l,v,E,rfl,rfl⟩
 ·exact .inl ⟨i,l,o,s,u,A,rfl,rfl⟩
 ·exact .inr ⟨j,st,l,E,v,rfl,rfl⟩
theorem MX.can{σ R F:TH}{σD:ar}{s:MS}{n:Nat}(X:MX [] σ R F s n)(H1:RH σ σD)(hf:s.fz=[])(he:Yd σ s.ρ 0 F=true){ρ:Nat->Nat}(ad:∀i,i<F.length->il 0 s i=ρ i):iG ρ F.length F σ:={
 len:=rfl
 bs:=λi hi=>by
  obtain ⟨x,y,h1,h2,h3⟩:=X.bf i hi;have U:([]:TH).length=0:=rfl;rw[U] at h1;refine ⟨y,x,h2,by simp_all,?_⟩;rcases h3 with ⟨w,cs,w',G,rfl,rfl,O⟩ | O
  ·refine .inl ⟨w',G,w,cs,rfl,rfl,?_⟩;have ab:il 0 s i=(pd i s.ρ).getD 0:=by rw[il,if_neg (by omega)]
   have ex:=exN_get he i w' G w cs h2 (by simp_all);refine aJ.GL ?_ λj a b ha hb=>?_
   ·have:=O.len
    simp_all
   ·have c:=(O.get j b.2 (by simp_all));obtain ⟨a',A,c⟩:=c;rw[lY,ha] at A;simp only[Option.map_some,au] at A;subst A;have e1:=ZQ ex j b a hb ha;have blk:∀b u:Nat,Bd 0 s b u->b<F.length->u=ρ b:=λb u hb U=>by grind [Bd.Kc]
    rcases c with c | ⟨c1,c2⟩
    ·rcases c with ⟨_,c2,c3⟩ | ⟨i',u,v,l,cv,_,o,_⟩ | ⟨i',E,u,v,l0,af,j',lv,l,cv,Z,o,h3,e3,h5⟩ | ⟨E,u,off,sz,Z,o,e3,K⟩ | ⟨E,u,Z,o,e3,K⟩ | ⟨f1,E,u,sz,Z,o,e3,K⟩
     ·grind [Xm,D.Cw]
     ·simp_all
     ·have hF:=X.sr.row E j' l lv cv h5;have aa:=(gg.1 hF).1;obtain ⟨x,y,u1,u2,u3⟩:=X.bf E aa;have q:il 0 s E=u:=o.Kc;rw[U,q,h3] at u1;rw[hF] at u2;simp only[au] at u1 u2;subst u1 u2;rcases u3 with ⟨_,_,_,_,e,_⟩ | ⟨i2,l2,_,_,_,_,e4,e5⟩ | ⟨_,_,_,_,_,e4,_⟩
      ·simp at e
      ·grind [TC.er,D.dX]
      simp_all
     ·grind [TC.er,D.dX,MX.Qm]
     ·grind [TC.er,D.dX,MX.Qm]
     grind [TC.er,D.dX,D.dX.wo,MX.Qm]
    grind [D.Cw,GC.low]
  ·exact .inr O.symm }
theorem OB_low(m i:Nat)(l:List (TT i)):(OB (enc i) l).low m=true:=by
 have:∀d:List C,D.low.cL m (d.map .c)=true:=by
  intro d;induction d with
  |nil=>rfl
  |cons c d ih=>simp only[tn,D.low.cL,D.low,ih,Kk]
 exact this _
theorem IR{m:Nat}:∀{ds:List D},(∀d∈ds,d.low m=true)->D.low.cL m ds=true:=by
 intro ds;induction ds with
 |nil=>intro _;rfl
 |cons d ds ih=>
  intro h;simp only[D.low.cL,bG]
  simp_all
theorem RH.low{σ:TH}(H:RH σ (σ.map TB.er)):(σ.map TB.er).all (Ob.low (σ.map TB.er).length)=true:=by
 rw[iB];intro E o;rw[iT] at o;obtain ⟨blk,s,rfl⟩:=o;obtain ⟨b,s⟩:=yB3 s;rw[xw];cases blk with
 |cells w u=>refine IR λd hd=>?_;rw[iT] at hd;obtain ⟨p,x,rfl⟩:=hd;exact ((H.hg b w u s p x).1).low
 |row i l G K=>exact OB_low _ i l
 |mp j st l v=>have:=Jc (st:=st) l 0;simp only[TB.er,Ob.low];rw[iB] at this ⊢;exact λe A=>D.eE (NA _) (this e A)
theorem eD_low{σ:TH}{v:TV}(g:GV σ v)(e:nT v):(eD v).low σ.length=true:=by
 cases v with
 |c x=>exact GC.low g
 |agg h=>refine IR λd hd=>?_;rw[iT] at hd;obtain ⟨x,j,rfl⟩:=hd;exact (g x j).low
 |aQ h=>exact e.elim
theorem one_low{m:Nat}{ds:List D}(h:∀d∈ds,d.low m=true):(one ds).low m=true:=by
 cases ds with
 |nil=>rfl
 |cons d ds=>
  cases ds with
  |nil=>exact h d (rX ..)
  |cons e ds=>exact IR h
theorem ZZ{ρ:Nat->Nat}{e d:List TV}(h:aJ (λ(v k:TV)=>eD v=(eD k).dX ρ) e d):one (e.map eD)=(one (d.map eD)).dX ρ:=by
 have g:e.map eD=D.dX.wo ρ (d.map eD):=by
  induction h with
  |nil=>rfl
  |cons h _ ih=>grind [D.dX.wo]
 rw[g];cases d with
 |nil=>rfl
 |cons v j=>
  cases j with
  |nil=>rfl
  |cons m j=>rfl
theorem Ls(ρ:Nat->Nat):∀{l:List (Value×D×Nat)},(∀e∈l,e.2.1.low 0=true)->(l.map λe=>(e.1,e.2.1.dX ρ,e.2.2))=l:=by
 intro l;induction l with
 |nil=>simp_all
 |cons e l ih=>grind [D.Cw]
theorem OZ{ρ:Nat->Nat}{x y:TB}(h:Dj ρ x y):y.er=x.er.dX ρ:=by
 rcases h with ⟨w,k,m,d,rfl,rfl,h⟩ | h
 ·simp only[TB.er,Ob.dX,Ob.cells.injEq];rw[UW];induction h with
  |nil=>rfl
  |cons h _ ih=>simp_all
 ·rw[h.er];rcases h with ⟨i,l,o,p,e,g,rfl,rfl⟩ | ⟨j,st,l,v,q,rfl,rfl⟩
  ·grind [TB.er,Ob.dX,NV]
  ·have:=Jc (st:=st) l 0;rw[iB] at this;simp only[TB.er,Ob.dX,Ob.map.injEq,Nr];exact (Ls ρ this).symm
theorem inlS_ok{P:Program}{O:NI}(hO:∀p∈O,cV P p.1 p.2):cY.ok P (inlS O):=by
 intro cs gi vs σ y ct x rv aA T ds h aa ab R a2 a5;cases cs with
 |nil=>grind
 |cons bl cs=>
  simp only[inlS] at h;split at h
  rotate_left
  ·simp at h
  rename_i k0 k hH;split at h
  rotate_left
  ·simp at h
  rename_i g s hk;split at h
  rotate_left
  ·simp at h
  rename_i bt x0 hg r;split at h
  rotate_left
  ·simp at h
  rename_i ad σ0 af;split at h
  rotate_left
  ·simp at h
  rename_i E;simp only[bG] at E;obtain ⟨E,ak⟩:=E;split at h
  rotate_left
  ·simp at h
  rename_i an _;obtain ⟨y0,a6,hy⟩:=castO (Iy an) h;have:=cO hg;subst this;obtain ⟨av,ax⟩:=hO _ (Am hk);refine ⟨av,?_⟩;dsimp only at ax;obtain ⟨i,o,z0,a7,ha,hb,a0⟩:=YR an hy aa;have hr:=WS ak i o ct ha hb;unfold absS at r;split at r
  ·simp_all
  rename_i s1 G;split at r
  ·simp_all
  rename_i ms U;split at r
  rotate_left
  ·simp_all
  rename_i hc;split at r
  rotate_left
  ·simp_all
  rename_i x1 a8;simp only[au,aT] at r;obtain ⟨rfl,rfl⟩:=r;simp only[bG,List.isEmpty_iff] at hc;obtain ⟨bu,a9,bb,bv⟩:=hc;obtain ⟨L0⟩:=lW af;have H0:RH ([]:TH) []:=⟨rfl,λb blk h=>by simp at h,λb w cs h=>by simp at h⟩;obtain ⟨bw,X,bc⟩:=mx_of (ct:=s.Ah) (σ:=[]) (σ1:=σ) (s2:=s1) rfl G (by rw[bb];rfl) U (by grind) a8 L0 rfl H0 R (λb blk h=>by simp at h) a5
  have b0:σ0.length=s.Ah.nb.length:=by grind [MX.len]
  let ρ:=YM s.Ah.nb.length σ.length ms.ρ
  have K:∀i,i<σ0.length->il 0 ms i=ρ i:=λi A=>by simp only[ρ,YM,il];rw[if_neg (by omega),tM.mpr (by omega)]
  have t:∀k,ρ (σ0.length+k)=σ.length+k:=λk=>by
   simp only[ρ,YM];have:Nat.blt (σ0.length+k) s.Ah.nb.length=false:=by
    rw[Bool.eq_false_iff]
    simp_all
   simp_all
  have C0:iG ρ σ0.length σ0 σ:=X.can R a9 E K;have N:QR 0 T (σ0.map TB.er) (il 0 ms) (λ_=>False):=by
   have:=X.rnH R
   simp_all
  have hd:aJ (dh T (σ0.map TB.er) (il 0 ms) (λ_=>False)) ds (ad.map eD):=by
   have:=X.valL R bc a2
   simp_all
  have lt:∀i,i<σ0.length->ρ i<σ.length:=λi A=>by
   obtain ⟨x,y,u1,u2,_⟩:=C0.bs i A
   grind
  have a1:∀i j,i<σ0.length->j<σ0.length->ρ i=ρ j->i=j:=λi j A Z e=>by rw[<-K i A,<-K j Z] at e;exact N.inj i j (by simp_all) (by simp_all) e
  obtain ⟨L⟩:=lW ab;obtain ⟨k1,k2,k3,k4,k5,k6⟩:=L.all R;have hr:rCT ρ σ0.length o ct=true:=by grind
  obtain ⟨bd,F0,u,be,CF⟩:=XC a1 hr C0 t lt R L a0;obtain ⟨j1,j2,j3,j4,j5,j6⟩:=L0.all H0;obtain ⟨LF⟩:=lW u;obtain ⟨i1,i2,i3,i4,i5,i6⟩:=LF.all j1;have ok:=ax x1 y0 ad σ0 o z0 bd F0 a6 af a7 u;have S:F0.length=σ0.length+o.nb.length:=CF.len;have bh:aA.length=σ.length+ct.nb.length:=by
   have a:=(kW L.h4).len;have b:=(gJ L.h1 R).len
   grind [zu,Laid.h5,Laid.fl]
  have bi:ct.nb.length=o.nb.length:=by
   have:∀{ps qs:List NB},yU ρ (σ0.length+o.nb.length) ps qs=true->qs.length=ps.length:=by
    intro ps;induction ps with
    |nil=>grind [yU]
    |cons p ps ih=>intro qs h;cases qs with | nil=>grind [yU] | cons q qs=>simp only[yU,bG] at h;grind
   simp only[rCT,bG] at hr
   grind
  have g0:=Jp LF.h3;have bk:(σ0.map TB.er).length=σ0.length:=xw _;have m:(F0.map TB.er).length=F0.length:=xw _;rw[ZZ be];refine relocH ok (by omega) i1.low ?_ (ρ0:=il 0 ms) (λi A=>K i (by omega)) N hd ?_ ?_ ?_ ?_
  ·rw[m];refine one_low λd hd=>?_;rw[iT] at hd;obtain ⟨v,hv,rfl⟩:=hd;exact eD_low ((g0 v hv).gv LF.sr) (g0 v hv).nt
  ·intro i j A Z e;rw[m] at A Z;rcases si i σ0.length with G | G
   ·rcases si j σ0.length with U | U
    ·grind
    grind [Nat.exists_eq_add_of_le]
   ·obtain ⟨k,rfl⟩:=yB6 G;rw[t] at e;rcases si j σ0.length with U | U
    ·grind
    grind [Nat.exists_eq_add_of_le]
  ·grind [Nat.exists_eq_add_of_le,RH.len]
  ·intro i A;rw[m,S] at A;obtain ⟨x,y,u1,u2,u3⟩:=CF.bs i A
   grind [OZ]
  ·intro j Z;rw[m,S] at Z;rcases si j T.length with G | G
   ·refine k5 j G λhm=>?_;rw[iT] at hm;obtain ⟨q,hq,e⟩:=hm;simp only[rCT,bG] at hr
    grind [Vi]
   ·rw[R.len] at G;obtain ⟨k,rfl⟩:=yB6 G;have:o.nb.length<=k:=by
     rcases si k o.nb.length with U | U
     ·exact absurd (t k) (Z (σ0.length+k) (by omega))
     omega
    rw[xAg (by grind),xAg (by grind [RH.len])]
theorem osp_ok{P:Program}{B:cY}(o:cY.ok P B){g:FuncId}{s:dq}(p:aS P g=true)
  (h:∀x,(match mO s.Ah [] x with | some (vs,σ)=>B s.OK g vs σ | none=>none)=s.f x):cV P g s:=by
 refine ⟨p,λx y vs σ q z r t d k hs u=>?_⟩;rw[<-h x,k] at d;dsimp only at d;obtain ⟨e⟩:=lW k;have A:RH ([]:TH) []:=⟨rfl,λb blk h=>by simp at h,λb w L h=>by simp at h⟩;obtain ⟨E,N,O,R,S,T⟩:=e.all A;have m:=Jp e.h3;have G:fG vs (vs.map eD):=by
  have:∀(vs:List TV),(∀v∈vs,nT v)->fG vs (vs.map eD):=by
   intro vs;induction vs with
   |nil=>intro _;exact .nil
   |cons v vs ih=>intro h;exact .cons (RT.eD (h v (rX ..))) (ih λx K=>h x (oD _ K))
  exact this vs λv j=>(m v j).nt
 exact (o s.OK g vs σ y q z r t _ _ d hs u E G λv j=>(m v j).gv e.sr).2
end
end Go.Abs
end
section
namespace Go.Abs
noncomputable section
variable[Gl][Y:Ty]
def tY(P:Program)(O:NI):Prop:=∀p∈O,cV P p.1 p.2
theorem tY.nil{P:Program}:tY P []:=λp h=>by simp at h
theorem tY.cons{P:Program}{O:NI}{g:FuncId}{s:dq}(h:cV P g s)(r:tY P O):tY P ((g,s)::O):=λp j=>by
 rcases gn.1 j with rfl | j
 ·exact h
 ·exact r p j
def Tn(O:NI)(K:cY):cY:=λd g h σ=>match d with
 |[]=>none
 |e :: d => match e.H with
  |[(_,k)]=>match Nat.beq k 999999 with | true=>K (e::d) g h σ | false=>inlS O (e::d) g h σ
  |_=>none
theorem IF{P:Program}{O:NI}{K:cY}(t:tY P O)(u:cY.ok P K):cY.ok P (Tn O K):=by
 intro v m o σ y p x q r g ds h d e s j k;unfold Tn at h;split at h
 ·simp at h
 split at h
 ·split at h
  ·exact u _ m o σ y p x q r g ds h d e s j k
  ·exact inlS_ok t _ m o σ y p x q r g ds h d e s j k
 simp_all
def inlG(P:Program)(S:tH)(N:Nat)(O:NI)(K:cY):cY:=(Qg P S N (Tn O K) (resO O) 30).1
theorem inlG_ok{P:Program}{S:tH}{N:Nat}{O:NI}{K:cY}(dx:P.follows .mixedOrders=true)(d:fh P S)(e:tY P O)(g:cY.ok P K):cY.ok P (inlG P S N O K):=(Of dx d (IF e g) 30).1
def tG(P:Program)(g:Nat)(S:tH)(O:NI)(K:cY)(H:List (Nat×Nat))(J:List (Nat×JH))(C:List (Nat×List CT))(d out:List de)(N:Nat)(a:tf d):Option (lI out):=
 match P.funcs[g]? with
 |some f => match gM P f true with
  |some e => match aS P g && Nat.ble d.length e.ntmps with
   |true=>tF P S (Tn O K) (resO O) H J C 30 e d out N a
   |false=>none
  |none=>none
 |none=>none
theorem tG_ok{P:Program}{g:Nat}{S:tH}{O:NI}{K:cY}{H:List (Nat×Nat)}{J:List (Nat×JH)}{C:List (Nat×List CT)}{d out:List de}{N:Nat}{f:tf d->Option (lI out)}(dx:P.follows .mixedOrders=true)(j:fh P S)(m:tY P O)(o:cY.ok P K)(h:∀a,tG P g S O K H J C d out N a=f a):bH P g ⟨d,out,f⟩:=by
 intro a r e;dsimp only at a r e ⊢;rw[<-h a] at e;unfold tG at e;split at e
 ·rename_i fn p;split at e
  ·rename_i s q;split at e
   ·rename_i k;simp only[bG] at k;exact tF_ok dx j p k.1 q ⟨(Of (B:=Tn O K) dx j (IF m o) 30).1.inl _ _ _ _ _ _ _ _,(Of (B:=Tn O K) dx j (IF m o) 30).2.two _ _ _ _ _ _ _ _⟩ k.2 e
   simp_all
  simp_all
 simp_all
def oG(P:Program)(g:Nat)(S:tH)(O:NI)(K:cY)(N:Nat)(s:dq)(x:dA s.Ah.items):Option (qa s.OK):=
 match mO s.Ah [] x with
 |some (d,σ)=>inlG P S N O K s.OK g d σ
 |none=>none
theorem oG_ok{P:Program}{g:Nat}{S:tH}{O:NI}{K:cY}{N:Nat}{s:dq}(dx:P.follows .mixedOrders=true)(d:fh P S)(e:tY P O)(j:cY.ok P K)(k:aS P g=true)(h:∀x,oG P g S O K N s x=s.f x):cV P g s:=osp_ok (inlG_ok dx d e j) k h
end
end Go.Abs
end
section
namespace Go.Abs
noncomputable section
variable[Gl][Y:Ty]
abbrev nilD:D:=.c (.lit (.slice none 0 0))
def NS (es sz:Nat) (z:List D):kS:=⟨1,8,[(2,none)],.seq (.BZ [⟨some 2,.Ai (.k nilD),none⟩])
 (.seq (.seq (.BZ [⟨some 3,.Ai (.t 0),none⟩,⟨some 4,.iU 3 false (.t 3),none⟩])
  (.cond (.t 4) (.seq (.BZ [⟨some 2,.Ai (.k nilD),none⟩]) .ret) .skip))
 (.seq (.BZ [⟨some 5,.jk es 0 z [],none⟩,⟨some 6,.Ai (.t 0),none⟩,⟨some 7,.append es sz (.t 5) (.t 6),none⟩,⟨some 2,.Ai (.t 7),none⟩]) .ret)),true⟩
def cloneF(i:Nat)(a:tf [de.c (.sl i)]):Option (lI [de.c (.sl i)]):=cr ([]:List (TT i)) a.1
theorem dR{P:Program}:nP P (λ_ _ _ _=>none):=λt g ds σ r d wr h=>by simp at h
theorem tT{P:Program}{g i sz:Nat}{z:List D}{fn:Func}(dx:P.follows .mixedOrders=true)(k:P.funcs[g]? = some fn)(o:aS P g=true)(p:gM P fn true=some (NS (aw i) sz z))(hs:Nat.ble sz 1000=true):bH P g ⟨[.c (.sl i)],[.c (.sl i)],cloneF i⟩:=by
 intro a r j;obtain ⟨l,u⟩:=a;dsimp only at j;show Pure P g [.c (.cB false (l.map (enc i)))] (.c (.cB false (r.map (enc i))));obtain ⟨q,rfl⟩:=uF (l:=([]:List (TT i))) (m:=l) j;refine Wn (λe d=>?_) ?_ ?_
 ·rw[iT] at d;obtain ⟨x,_,rfl⟩:=d;intro h;have:=rT i x;rw[h] at this;have s:=Y.ps i
  simp_all
 ·refine un k o p (Cq rfl) ?_;refine Sem.jT (Sem.qE dx dR (cd.op (zV rfl) iy rfl (cd.nil (.inl ?_))));refine Sem.jT ?_;refine Sem.jT (Sem.qE dx dR (cd.op (zV rfl) iy rfl (cd.op (fi (b:=false) rfl rfl) iy rfl (cd.nil (.inl ?_)))));refine Sem.cond (b:=false) rfl (λh=>by simp at h) λ_=>Sem.skip dx (.inl ?_);refine Sem.jT (Sem.qE dx dR (cd.op (ju (f:=enc i) (l:=([]:List (TT i))) rfl rfl rfl (rT i) rfl rfl rfl) iy rfl (cd.op (zV rfl) iy rfl
   (cd.op (vH (f:=enc i) (l:=([]:List (TT i))) (m:=r) (r:=r) (rT i) rfl rfl rfl rfl (CY (rT i)) j hs rfl rfl) iy rfl (cd.op (zV rfl) iy rfl (cd.nil (.inl ?_)))))))
  refine Sem.ret dx ⟨.inr rfl,_,_,rfl,frz_own (l:=r) (rT i) (Y.ps i) rfl rfl,Ev.OO rfl⟩
 ·intro d;rw[d];refine un k o p (Cq rfl) ?_;refine Sem.jT (Sem.qE dx dR (cd.op (zV rfl) iy rfl (cd.nil (.inl ?_))));refine Sem.jT ?_;refine Sem.jT (Sem.qE dx dR (cd.op (zV rfl) iy rfl (cd.op (fi (b:=true) rfl rfl) iy rfl (cd.nil (.inl ?_)))));refine Sem.cond (b:=true) rfl (λ_=>?_) λh=>by simp at h
  refine Sem.jT (Sem.qE dx dR (cd.op (zV rfl) iy rfl (cd.nil (.inl ?_))));refine Sem.ret dx ⟨.inr rfl,_,_,rfl,rfl,Ev.OO rfl⟩
theorem ok_nil{P:Program}{g:FuncId}{es:List (List C)}{r:D}{σ σ':ar}(q:∀e∈es,e≠[])(G:Ok P g [.c (.cB true es)] σ r σ')(K:es=[]->Ok P g [.c (.lit (.slice none 0 0))] σ r σ'):Ok P g [.c (.cB false es)] σ r σ':=by
 intro M Fz w h R hs L;have s:h[0]? = some (h[0]'(by simp_all)):=rG _;have j:=L 0 _ _ rfl s;generalize S:h[0]'(by simp_all)=x at j s;have only:∀d,V σ M Fz w d x->∀(i:Nat) t v,[d][i]? = some t->h[i]? = some v->V σ M Fz w t v:=by grind
 cases j with
 |c u=>
  generalize A:C.cB false es=y at u;cases u with
  |cB aw a cap N E c m k o p=>
   simp only[C.cB.injEq] at A;obtain ⟨rfl,rfl⟩:=A;cases a with
   |some a=>exact G M Fz w h R hs (only _ (.c (.cB aw (some a) cap (λ_=>rfl) E c m k o p)))
   |none=>
    have O:es=[]:=by simp_all
    subst O;have:=E rfl;subst this;exact K rfl M Fz w h R hs (only _ (.c (.lit _)))
  |_=>grind
theorem Um{P:Program}{g:FuncId}{ds:List D}(h:Ok P g ds [] nilD [])(es:Nat):Ok P g ds [] (.sl 0 0 0 es 0) [.cells []]:=by
 intro M Fz w r R hs s;refine (h M Fz w r R hs s).mono λe E t=>?_;obtain ⟨v,k,m,u,j,p,d⟩:=t;have x:∀b,k b=none:=λb=>by
  cases q:k b with
  |none=>rfl
  |some c=>obtain ⟨_,y,o,G,_⟩:=j.blk b c q;grind
 refine ⟨v,k,m,u,⟨λb c q=>(by simp_all),j.inj,j.fz,j.gl⟩,?_,⟨d.size,d.frame,d.kK,d.fz,d.nQ,d.pP,λb y q=>by grind,d.out⟩⟩;cases p with
 |c A=>
  cases A with
  |lit=>exact .sl none 0 0 (λh=>absurd rfl h) (.cells []) rfl (cR _) λ_=>.inl ⟨rfl,rfl,rfl,rfl,rfl,rfl⟩
theorem rn_id{i:Nat}{l:List (TT i)}:QR 0 [OB (enc i) l] [OB (enc i) l] id (λ_=>False):={
 le:=NA _
 id:=λi h=>rfl
 inj:=λi j _ _ h=>h
 fr:=λ_ _ h=>h
 row:=λ_ h=>h.elim
 sz:=λj g=>by simp_all
 ob:=λj g=>by
  have:j=0:=by simp_all
  subst this;have N:Rn 0 [OB (enc i) l] [OB (enc i) l] id (λ_=>False):=⟨NA _,λi h=>rfl,λi j _ _ h=>h,λ_ _ h=>h,λ_ h=>h.elim,λj g=>by simp_all⟩
  refine ⟨_,_,rfl,rfl,_,rfl,aJ.GL rfl λk a b d e=>?_⟩;rw[d] at e;simp only[au] at e;subst e;rw[lY,cu] at d;obtain ⟨c,_,rfl⟩:=d;exact dh.data N rfl }
theorem me{P:Program}{g i sz:Nat}{z:List D}{fn:Func}(dx:P.follows .mixedOrders=true)(s:P.funcs[g]? = some fn)(v:aS P g=true)(t:gM P fn true=some (NS (aw i) sz z))(hs:Nat.ble sz 1000=true) :
  cV P g ⟨.mk [.v (.c (.sl i))] [] [] [] [] [],[.mk [.p (.hd 0)] [] [.row i] [] [] []],λx=>cr ([]:List (TT i)) x⟩:=by
 refine ⟨v,λx y A σ L z E G q r d K=>?_⟩;dsimp only at q r d;change dA [It.cc (.sl i)] at x;change dA [It.ls i] at y;have o:some ([TV.c (.sl i x)],([]:TH))=some (A,σ):=by rw[<-r];have e:dL (CT.items (.mk [.v (.c (.sl i))] [] [] [] [] [])) x=[⟨.cc (.sl i),x⟩]:=rfl;unfold mO;rw[e];simp only[CT.pl,CT.nb,CT.out,bY,du,ky,yK,FD,dO,dH,DM];rfl
 simp only[au,aT] at o;obtain ⟨rfl,rfl⟩:=o;simp only[tq,au,ZD] at d;obtain ⟨rfl,N⟩:=d;have p:some ([TV.c (.own i 0 0 (List.length (α:=TT i) y))],[TB.row i y 0 0])=some (E,G):=by rw[<-K];have e:dL (CT.items (.mk [.p (.hd 0)] [] [.row i] [] [] [])) y=[⟨.ls i,y⟩]:=rfl;unfold mO;rw[e];simp only[CT.pl,CT.nb,CT.out,bY,du,ky,yK,wu,FD,dO,dH,DM,List.nil_append,List.getElem?_cons_zero]
 simp only[au,aT] at p;obtain ⟨rfl,rfl⟩:=p;obtain ⟨u,rfl⟩:=uF (l:=([]:List (TT i))) (m:=x) q;show Ok P g [.c (.cB false (List.map (enc i) y))] [] (OS (aw i) 0 (List.length (α:=TT i) y)) [OB (enc i) y];refine ok_nil (λe k=>?_) ?_ ?_
 ·rw[iT] at k;obtain ⟨x,_,rfl⟩:=k;intro h;have:=rT i x;rw[h] at this;have r:=Y.ps i
  simp_all
 ·refine qg s t (Cq rfl) ?_;refine Sem.jT (Sem.qE dx dR (cd.op (zV rfl) iy rfl (cd.nil (.inl ?_))));refine Sem.jT ?_;refine Sem.jT (Sem.qE dx dR (cd.op (zV rfl) iy rfl (cd.op (fi (b:=false) rfl rfl) iy rfl (cd.nil (.inl ?_)))));refine Sem.cond (b:=false) rfl (λh=>by simp at h) λ_=>Sem.skip dx (.inl ?_);refine Sem.jT (Sem.qE dx dR (cd.op (ju (f:=enc i) (l:=([]:List (TT i))) rfl rfl rfl (rT i) rfl rfl rfl) iy rfl (cd.op (zV rfl) iy rfl
   (cd.op (vH (f:=enc i) (l:=([]:List (TT i))) (rT i) rfl rfl rfl rfl (CY (rT i)) q hs rfl rfl) iy rfl (cd.op (zV rfl) iy rfl (cd.nil (.inl ?_)))))))
  refine Sem.ret dx ⟨.inr rfl,_,id,λ_=>False,rfl,rn_id,λ_ h=>h.elim,?_⟩;exact dh.sl rn_id.toRn (i:=0) (Nat.lt_succ_self 0)
 ·intro k;have k:y=([]:List (TT i)):=List.map_eq_nil_iff.1 k;subst k;have e:OS (aw i) 0 (List.length (α:=TT i) [])=.sl 0 0 0 (aw i) 0:=by simp[OS]
  rw[e];refine Um ?_ (aw i);refine qg s t (Cq rfl) ?_;refine Sem.jT (Sem.qE dx dR (cd.op (zV rfl) iy rfl (cd.nil (.inl ?_))));refine Sem.jT ?_;refine Sem.jT (Sem.qE dx dR (cd.op (zV rfl) iy rfl (cd.op (fi (b:=true) rfl rfl) iy rfl (cd.nil (.inl ?_)))));refine Sem.cond (b:=true) rfl (λ_=>?_) λh=>by simp at h
  refine Sem.jT (Sem.qE dx dR (cd.op (zV rfl) iy rfl (cd.nil (.inl ?_))));refine Sem.ret dx ⟨.inr rfl,_,id,λ_=>False,rfl,⟨⟨cR _,λi h=>rfl,λi j _ _ h=>h,λ_ _ h=>h,λ_ h=>h.elim,λi h=>by simp at h⟩,λi h=>by simp at h⟩,λ_ h=>h.elim,?_⟩;exact dh.data ⟨cR _,λi h=>rfl,λi j _ _ h=>h,λ_ _ h=>h,λ_ h=>h.elim,λi h=>by simp at h⟩ rfl
theorem rn_rows{σ:ar}(h:∀ob∈σ,∃(i:Nat)(l:List (TT i)),ob=OB (enc i) l){m:Nat}(hm:m<=σ.length):QR m σ σ id (λ_=>False):=by have N:Rn m σ σ id (λ_=>False):=⟨hm,λi _=>rfl,λi j _ _ e=>e,λ_ _ e=>e,λ_ e=>e.elim,λi d=>⟨_,_,eH d,eH d,rfl⟩⟩;refine ⟨N,λi d=>⟨_,_,eH d,eH d,?_⟩⟩;obtain ⟨k,l,e⟩:=h _ (bE d);rw[e];refine ⟨_,rfl,aJ.GL rfl λk a b g o=>?_⟩;rw[g] at o;simp only[au] at o;subst o;rw[lY,cu] at g;obtain ⟨c,_,rfl⟩:=g;exact dh.data N rfl
theorem EN{P:Program}{g ii sz:Nat}{z:List D}{fn:Func}(dx:P.follows .mixedOrders=true)(G:P.funcs[g]? = some fn)(X:aS P g=true)(K:gM P fn true=some (NS (aw ii) sz z))(hs:Nat.ble sz 1000=true) :
  cV P g ⟨.mk [.p (.hd 0)] [] [.row ii] [] [] [],[.mk [.p (.hd 1)] [] [.row ii] [] [] []],λx=>cr ([]:List (TT ii)) x⟩:=by
 refine ⟨X,λx y p σ ct z Z aA u L k hq=>?_⟩;dsimp only at u L k;change dA [It.ls ii] at x;change dA [It.ls ii] at y;have s:some ([TV.c (.own ii 0 0 (List.length (α:=TT ii) x))],[TB.row ii x 0 0])=some (p,σ):=by rw[<-L];have e:dL (CT.items (.mk [.p (.hd 0)] [] [.row ii] [] [] [])) x=[⟨.ls ii,x⟩]:=rfl;unfold mO;rw[e];simp only[CT.pl,CT.nb,CT.out,bY,du,ky,yK,wu,FD,dO,dH,DM,List.nil_append,List.getElem?_cons_zero]
 simp only[au,aT] at s;obtain ⟨rfl,rfl⟩:=s;simp only[tq,au,ZD] at k;obtain ⟨rfl,hz⟩:=k;have t:some ([TV.c (.own ii 1 0 (List.length (α:=TT ii) y))],[TB.row ii x 0 0,TB.row ii y 0 0])=some (Z,aA):=by rw[<-hq];have e:dL (CT.items (.mk [.p (.hd 1)] [] [.row ii] [] [] [])) y=[⟨.ls ii,y⟩]:=rfl;unfold mO;rw[e];simp only[CT.pl,CT.nb,CT.out,bY,du,ky,yK,wu,FD,dO,dH,List.cons_append,List.nil_append,List.getElem?_cons_zero,List.getElem?_cons_succ]
 simp only[au,aT] at t;obtain ⟨rfl,rfl⟩:=t;obtain ⟨N,rfl⟩:=uF (l:=([]:List (TT ii))) (m:=x) u;show Ok P g [OS (aw ii) 0 (List.length (α:=TT ii) y)] [OB (enc ii) y] (OS (aw ii) 1 (List.length (α:=TT ii) y)) [OB (enc ii) y,OB (enc ii) y];have rn:QR 1 [OB (enc ii) y,OB (enc ii) y] [OB (enc ii) y,OB (enc ii) y] id (λ_=>False):=rn_rows (λob h=>by grind) (by simp)
 have fin:dh [OB (enc ii) y,OB (enc ii) y] [OB (enc ii) y,OB (enc ii) y] id (λ_=>False) (OS (aw ii) 1 (List.length (α:=TT ii) y)) (OS (aw ii) 1 (List.length (α:=TT ii) y)):=dh.sl rn.toRn (i:=1) (Nat.lt_succ_self 1);have O:∀d,(isNil 3 d=some false)->Src [OB (enc ii) y,OB (enc ii) ([]:List (TT ii))] (enc ii) (aw ii) d y->Ok P g [d] [OB (enc ii) y] (OS (aw ii) 1 (List.length (α:=TT ii) y)) [OB (enc ii) y,OB (enc ii) y]:=λd hd A=>by
  refine qg G K (Cq rfl) ?_;refine Sem.jT (Sem.qE dx dR (cd.op (zV rfl) iy rfl (cd.nil (.inl ?_))));refine Sem.jT ?_;refine Sem.jT (Sem.qE dx dR (cd.op (zV rfl) iy rfl (cd.op (fi (b:=false) rfl hd) iy rfl (cd.nil (.inl ?_)))));refine Sem.cond (b:=false) rfl (λh=>by simp at h) λ_=>Sem.skip dx (.inl ?_);refine Sem.jT (Sem.qE dx dR (cd.op (ju (f:=enc ii) (l:=([]:List (TT ii))) rfl rfl rfl (rT ii) rfl rfl rfl) iy rfl (cd.op (zV rfl) iy rfl
   (cd.op (vH (f:=enc ii) (l:=([]:List (TT ii))) (m:=y) (r:=y) (rT ii) rfl rfl rfl rfl A u hs rfl rfl) iy rfl (cd.op (zV rfl) iy rfl (cd.nil (.inl ?_)))))))
  exact Sem.ret dx ⟨.inr rfl,_,id,λ_=>False,rfl,rn,λ_ h=>h.elim,fin⟩
 cases y with
 |cons a l=>exact O _ rfl (RW (rT ii) rfl rfl)
 |nil=>
  intro M Fz w p R hs hv;have S:p[0]? = some (p[0]'(by simp_all)):=rG _;have q:=hv 0 _ _ rfl S;generalize hx:p[0]'(by simp_all)=x at q S;have only:∀d,V [OB (enc ii) ([]:List (TT ii))] M Fz w d x->∀(i:Nat) U v,[d][i]? = some U->p[i]? = some v->V [OB (enc ii) ([]:List (TT ii))] M Fz w U v:=by grind
  have e0:OS (aw ii) 0 (List.length (α:=TT ii) [])=.sl 0 0 0 (aw ii) 0:=by simp[OS]
  rw[e0] at q;cases q with
  |sl a n cap aa ob h ab E=>
   simp only[List.getElem?_cons_zero,au] at h;subst h;rcases E rfl with ⟨rfl,rfl,rfl,_⟩ | ⟨c,o,ad,T,h1,rfl,rfl,h2,h3,h4,h5,h6⟩
   ·refine (show Ok P g [nilD] [OB (enc ii) ([]:List (TT ii))] (OS (aw ii) 1 0) [OB (enc ii) ([]:List (TT ii)),OB (enc ii) ([]:List (TT ii))] from ?_) M Fz w p R hs (only _ (.c (.lit _)));refine qg G K (Cq rfl) ?_;refine Sem.jT (Sem.qE dx dR (cd.op (zV rfl) iy rfl (cd.nil (.inl ?_))));refine Sem.jT ?_;refine Sem.jT (Sem.qE dx dR (cd.op (zV rfl) iy rfl (cd.op (fi (b:=true) rfl rfl) iy rfl (cd.nil (.inl ?_)))));refine Sem.cond (b:=true) rfl (λ_=>?_) λh=>by simp at h
    refine Sem.jT (Sem.qE dx dR (cd.op (zV rfl) iy rfl (cd.nil (.inl ?_))));refine Sem.own 2 (aw ii) rfl rfl rfl ?_;refine Sem.ret dx ⟨.inr rfl,_,id,λ_=>False,rfl,rn,λ_ h=>h.elim,?_⟩;have:=fin;rw[show OS (aw ii) 1 (List.length (α:=TT ii) [])=.sl 1 0 0 (aw ii) 0 by simp[OS]] at this;rw[show OS (aw ii) 1 0=.sl 1 0 0 (aw ii) 0 by simp[OS]];exact this
   ·exact O (.c (.cB true [])) rfl (CY (nn:=true) (m:=([]:List (TT ii))) (rT ii)) M Fz w p R hs (only _ (.c (.cB (aw ii) _ cap (λ_=>rfl) (λh=>by simp at h) (λ_ _=>undef) (λe h=>by simp at h) (NA _) (λi j e d h=>by simp at h) (λi j e d h=>by simp at h))))
theorem clo_ok{P:Program}{g:Nat}{out:List de}(f:tf []->Option (lI out))(dx:P.follows .mixedOrders=true)(h:(evF P (Rs P []) (λ_ _ _=>none) 1000 1 g [] []).map (λp=>(nrmY p.1,p.2.1))=(f ()).map λv=>(sN out v,[])):bH P g ⟨[],out,f⟩:=by
 intro a r o;have d:f ()=some r:=o;rw[d] at h;cases m:evF P (Rs P []) (λ_ _ _=>none) 1000 1 g [] [] with
 |none=>simp_all
 |some p=>obtain ⟨q,j,wr⟩:=p;rw[m] at h;simp only[Option.map_some,au,aT] at h;obtain ⟨s,rfl⟩:=h;have O:=evF_ok dx (Wu P []) (prim:=λ_ _ _=>none) (λg ds σ r j wr h=>by simp at h) 1000 1 g [] [] q [] wr m;refine ⟨O.1,λM Fz w t R hs u=>?_⟩;refine (O.2.1 M Fz w t R hs u).mono λe L x=>?_;obtain ⟨v,y,k,A,E,G,K⟩:=x;exact ⟨v,y,k,A,E,Ev.of_nrmY s _ _ _ _ _ G,K⟩
end
end Go.Abs
end
section
namespace Go.Abs
noncomputable section
open Go.RowKit
variable[Gl][Y:Ty]
structure qv (P:Program) (gs gk:FuncId) (kt:TypeId):Prop where
 en:aS P gs=true
 ku:P.underlying kt=some (.int .i64)
 run:∀(Bm b nn:Nat)(D0:DataW Unit)(R:Value->Option (DataW Unit×List MemPlace))(w:World),Bm<w.heap.size->w.cell? ⟨Bm,0,none⟩=some (.map (some b))->w.ownsMap P kt R b nn D0->Maps.size D0<=maxLen->Maps.size D0 * 8<=140737488355328 ->
  Calls P gs #[.func (.func gk) #[] #[.pointer (some ⟨Bm,0,none⟩)]] w λe w'=>∃(v:Value)(ss:List Int)(et:TypeId),e=.returned v/\ss.Perm (intKeys D0)/\w'.ownsRow w.heap.size et 1 v ss.length ((ss.mergeSort (λx y=>decide (x<=y))).map encZ)/\(v=.slice none 0 0↔ss=[])/\Below w.heap.size w w'
def zt{α d:Type}(c:Int->d)(l:List (Int×α)):Option (List d):=
 if l.length<=1000000/\(l.map Prod.fst).Nodup/\(∀p∈l,(Lit.int .i64 p.1).wf=true) then some (((l.map Prod.fst).mergeSort (λx y=>decide (x<=y))).map c) else none
def WW(ct:CT)(ii:Nat):Bool:=match ct.out,ct.pl,ct.nb with
 |[.v (.c (.sl j))],[],[]=>Nat.beq j ii
 |_,_,_=>false
def Ig(e j:FuncId)(ii:Nat)(c:Int->TT ii):cY:=λk g o σ=>
 match k with
 |[d] => match Nat.beq g e, o with
  |true, [.c (.d (.fn (.func f) [] [.ptr b 0 1]))] => match Nat.beq f j, σ[b]? with
   |true, some (.cells _ [(_, .d (.mp m))]) => match σ[m]? with
    |some (.mp _ _ l _) => match WW d ii, decEq [It.cc (.sl ii)] d.items with
     |true,.isTrue h=>cast (Ja (λi=>Option (dA i)) h) (zt c l)
     |_,_=>none
    |_=>none
   |_,_=>none
  |_,_=>none
 |_=>none
theorem Ph{α d:Type}(p:Option α=Option d)(e:α=d){o:Option α}{y:d}(h:cast p o=some y):∃g,o=some g/\HEq g y:=by grind
theorem mbE_get{α:Type}{g:α->D}:∀(l:List (Int×α))(i j:Nat),(Ac g i l)[j]? = (l[j]?).map λp=>(.int .i64 p.1,g p.2,i+j):=by
 intro l;induction l with
 |nil=>intro i j;rfl
 |cons p l ih=>grind [Ac]
theorem mbE_len{α:Type}{g:α->D}:∀(l:List (Int×α))(i:Nat),(Ac g i l).length=l.length:=by
 intro l;induction l with
 |nil=>intro i;rfl
 |cons p l ih=>grind [Ac]
theorem JA{P:Program}{gs gk:FuncId}{u:TypeId}(K:qv P gs gk u){ii:Nat}{c:Int->TT ii}(hc:∀k,enc ii (c k)=[.lit (.int .i64 k)]){σ:ar}{b m:Nat}{α:Type}{g:α->D}{l:List (Int×α)}{r:List (TT ii)}
  (hb:σ[b]? = some (.cells [.mp m])) (hm:σ[m]? = some (MB g l)) (hr:zt c l=some r):Ok P gs [.fn (.func gk) [] [.ptr b 0 1]] σ (.c (.cB false (r.map (enc ii)))) σ:=by
 unfold zt at hr;split at hr
 rotate_left
 ·grind
 rename_i aa;obtain ⟨S,bw,b0⟩:=aa;simp only[au] at hr;intro M Fz w vs R hs a7;have U:vs=#[vs[0]'(by simp_all)]:=by grind
 have hv:=a7 0 _ _ rfl (rG (by grind));generalize vs[0]'(by grind)=v0 at hv U;subst U;cases hv with
 |fn v1 ws h1 h2 _ hw=>
  have e1:v1=#[]:=by simp_all
  subst e1;have e2:ws=#[ws[0]'(by simp_all)]:=by grind
  have hp:=hw 0 _ _ rfl (rG (by grind));generalize ws[0]'(by grind)=p at hp e2;subst e2;have X:mP σ b 1=some [.mp m]:=PE hb rfl;obtain ⟨cb,hM,rfl⟩:=hp.vM X;obtain ⟨a8,_⟩:=NJ X;obtain ⟨t,T,hh,hl,a9⟩:=R.row hM a8;have ea:t[0]? = some (t[0]'(by omega)):=rG _;have bb:=(a9 0 _ _ rfl ea).1;obtain ⟨cm,b1,bc⟩:=bb.DN hm;obtain ⟨s,ck,bd,⟨ax,hB⟩,bl⟩:=R.LJ hm bc;rw[mbE_len] at ax;have ab:w.cell? ⟨cb,0,none⟩=some (.map (some cm)):=by grind [Go.cell_of_row]
  have be:∀(i:Nat) e,s[i]? = some e->∃p,l[i]? = some p/\e.key=.int .i64 p.1/\True:=λi e A=>by
   have Z:i<l.length:=by grind
   have h3:(Ac g 0 l)[i]? = some (.int .i64 l[i].1,g l[i].2,0+i):=by grind [mbE_get]
   grind
  let RR:Value->Option (DataW Unit×List MemPlace):=λ_=>some (.nil,[])
  have ad:s.toList.length=l.length:=by omega
  have af:s.toList.map (·.key)=(l.map Prod.fst).map (Value.int .i64):=by
   apply TP
   grind
  have b2:∀e∈s.toList,∃p∈l,e.key=.int .i64 p.1/\Go.WideElems.rd P u RR e=some (.int .i64 p.1,.nil):=λe A=>by
   obtain ⟨i,Z⟩:=yB3 A
   grind [Go.WideElems.rd,Go.Maps.keyOf_int_mk,qv.ku]
  have a0:Go.WideElems.Fit P u RR s ck:=by
   refine ⟨by rw[ax];exact lA S (by decide),⟨λe A=>?_,?_,?_⟩,λe A=>?_⟩
   ·exact hB.2 e A
   ·exact hB.1
   ·grind
   grind
  have E:((s.toList.map (Go.WideElems.rg P u RR)).foldr DataW.insert []).Perm (s.toList.map (Go.WideElems.rg P u RR)):=Go.WideShapes.sorted_perm _;have a1:w.ownsMap P u RR cm l.length (.map ((s.toList.map (Go.WideElems.rg P u RR)).foldr DataW.insert [])):=⟨s,ck,bd,a0,by omega,rfl⟩;have ak:(intKeys (.map ((s.toList.map (Go.WideElems.rg P u RR)).foldr DataW.insert []):DataW Unit)).Perm (l.map Prod.fst):=by
   refine (E.map _).trans ?_;have:(s.toList.map (Go.WideElems.rg P u RR)).map (λp=>intOf p.1)=l.map Prod.fst:=by
    rw[UW];have h5:(l.map Prod.fst).map (Value.int .i64)=s.toList.map (·.key):=af.symm;apply TP;intro i;rw[lY,lY,NC];cases A:s[i]? with
    |none=>simp_all
    |some e=>obtain ⟨p,h3,h4,_⟩:=be i e A;have hp:=Am h3;rw[h3];simp only[Option.map_some,Function.comp,au];rw[Go.WideElems.rg_of (show Go.WideElems.rd P u RR e=some (.int .i64 p.1,.nil) by grind [Go.WideElems.rd,Go.Maps.keyOf_int_mk,qv.ku])];rfl
   rw[this]
  have a2:Maps.size (.map ((s.toList.map (Go.WideElems.rg P u RR)).foldr DataW.insert []):DataW Unit)=l.length:=by rw[Maps.size_eq,E.length_eq,xw,ad]
  refine (K.run cb cm l.length _ RR w (R.lt hM).2 ab a1 (by rw[a2];exact lA S (by decide)) (by omega)).mono λe N A=>?_;obtain ⟨v,G,et,rfl,hp,an,bt,O⟩:=A;have av:G.mergeSort (λx y=>decide (x<=y))=(l.map Prod.fst).mergeSort (λx y=>decide (x<=y)):=mergeSort_of_perm_i (hp.trans ak);have bh:r.map (enc ii)=((l.map Prod.fst).mergeSort (λx y=>decide (x<=y))).map λk=>[C.lit (.int .i64 k)]:=by grind [List.map_congr_left]
  rw[bh,<-av];have Qm:(G.mergeSort (λx y=>decide (x<=y))).length=G.length:=List.length_mergeSort G;obtain ⟨_,an⟩:=an;rcases an with ⟨rfl,h0⟩ | ⟨gb,cap,a5,rfl,b3,a6,bu,_,bv,b4⟩
  ·have:G=[]:=VI h0;subst this;refine ⟨_,M,Fz,rfl,R.below O,.c ?_,bD.below R O⟩;rw[show ([]:List Int).mergeSort (λx y=>decide (x<=y))=[] from VI (by omega)];exact .cB 1 none 0 (λh=>by simp at h) (λ_=>rfl) (λ_ _=>undef) (λe A=>by grind) (cR _) (λi j e d h=>by simp at h) (λi j e d h=>by simp at h)
  ·have bi:∀(i:Nat) k,(G.mergeSort (λx y=>decide (x<=y)))[i]? = some k->N.cell? ⟨gb,0+i * 1+0,none⟩=some (.int .i64 k):=λi k hk=>by
    rw[cell_of_row N gb _ a5 et (0,0) a6];have Z:i<G.length:=by grind
    have h6:(a5.toList.take (G.length * 1))[i]? = some (encZ k):=by simp_all
    grind
   let L:Nat->Prop:=λx=>Fz x∨x=gb
   have RB:=R.below O;have EB:=bD.below R O;have b5:gb<N.heap.size:=(BO.1 a6).1;have mono:∀x:Nat,Fz x->L x/\N.heap[x]? = N.heap[x]?:=λx h=>⟨.inl h,rfl⟩;have mv:∀{d v},V σ M Fz N d v->V σ M L N d v:=λh=>h.sub (λb ob hb=>⟨ob,hb,rfl⟩) (λ_ _ h=>h) mono (λc t T fr h=>⟨t,h,rfl⟩);have R2:Rel σ M L N:=by
    refine ⟨λb' x h=>?_,RB.inj,λx h=>?_,Gl.mono mono RB.gl⟩
    ·obtain ⟨h1,ob,o,h2,h3,h4⟩:=RB.blk b' x h;have hx:x<w.heap.size:=(R.lt h).2;refine ⟨λhf=>?_,ob,o,h2,h3,?_⟩
     ·grind
     ·cases ob with
      |cells cs=>obtain ⟨t,T,ho,hl,hv⟩:=h4;exact ⟨t,T,ho,hl,λi d v x y=>⟨mv (hv i d v x y).1,(hv i d v x y).2⟩⟩
      |map es bk=>obtain ⟨t,ho,hl,hv⟩:=h4;exact ⟨t,ho,hl,λi k d n e x y=>let ⟨p,q,r⟩:=hv i k d n e x y;⟨p,q,mv r⟩⟩
      |gone n=>exact h4.elim
    ·rcases h with h | rfl
     ·exact RB.fz x h
     omega
   have E2:bD σ M Fz w σ M L N:=⟨EB.size,EB.frame,EB.kK,λx h=>⟨.inl h,(EB.fz x h).2⟩,λx h=>by grind,EB.pP,EB.keep,EB.out⟩
   refine ⟨_,M,L,rfl,R2,.c ?_,E2⟩;have e7:G.length=((G.mergeSort (λx y=>decide (x<=y))).map λk=>[C.lit (.int .i64 k)]).length:=by simp_all
   rw[e7];refine .cB 1 (some ⟨gb,0,none⟩) cap (λh=>by simp at h) (λh=>by simp at h) (λi _=>.int .i64 ((G.mergeSort (λx y=>decide (x<=y)))[i]?.getD 0)) (λe A=>?_) (by omega) (λi j e d Z hj=>?_) (λi j e d Z hj=>?_)
   ·grind
   ·rw[lY,cu] at Z;obtain ⟨k,hk,rfl⟩:=Z;cases j with
    |succ j=>grind
    |zero=>
     refine ⟨gb,0,rfl,.inr rfl,?_,rfl⟩
     grind
   ·rw[lY,cu] at Z;obtain ⟨k,hk,rfl⟩:=Z;cases j with
    |succ j=>grind
    |zero=>simp only[List.getElem?_cons_zero,au] at hj;subst hj;rw[hk];exact .lit _
theorem PD{P:Program}{O R:FuncId}{T:TypeId}(K:qv P O R T){ii:Nat}{c:Int->TT ii}(U:∀k,enc ii (c k)=[.lit (.int .i64 k)]):cY.ok P (Ig O R ii c):=by
 intro cs gi vs σ y ct x X Z aa ds h e d q s ab;unfold Ig at h;split at h
 rotate_left
 ·simp at h
 rename_i o;split at h
 rotate_left
 ·simp at h
 rename_i f b hg;split at h
 rotate_left
 ·simp at h
 rename_i w0 v0 m hf hb;split at h
 rotate_left
 ·simp at h
 rename_i j st l RA hm;split at h
 rotate_left
 ·simp at h
 rename_i NM t _;obtain ⟨S,hk,hy⟩:=Ph _ (show dA [It.cc (.sl ii)]=qa [o] from Ja dA NM) h;have:=cO hg;subst this;have:=cO hf;subst this;simp only[tq,au,ZD] at e;obtain ⟨rfl,hz⟩:=e;cases hz;obtain ⟨out,pl,nb,H,J,C⟩:=o;simp only[WW,CT.out,CT.pl,CT.nb] at t;split at t
 rotate_left
 ·grind
 obtain rfl:ii=_:=(cO t).symm;have u:ds=[.fn (.func f) [] [.ptr b 0 1]]:=by
  cases s with
  |cons r a=>cases a;rw[RT.c1 (by simp) r];rfl
 subst u;have p:dL (CT.items (.mk [.v (.c (.sl ii))] [] [] H J C)) y=[⟨.cc (.sl ii),S⟩]:=by grind [dL]
 have g:X=[.c (.sl ii S)]/\Z=σ:=by unfold mO at d;rw[p] at d;simp only[CT.pl,CT.nb,CT.out,bY,du,ky,yK,FD,dO,dH,DM,au,aT] at d;exact ⟨d.1.symm,d.2.symm⟩
 obtain ⟨rfl,rfl⟩:=g;refine ⟨K.en,?_⟩;have v:=q.hp b _ hb;have A:=q.hp m _ hm;obtain ⟨E,b1,G⟩:=v;obtain ⟨L,m1,N⟩:=A;have G:E=.cells [.mp m]:=G;have N:L=MB (K_ j st) l:=N;subst G N;have:=JA K U b1 m1 hk;rw[<-q.eqD];exact this
end
end Go.Abs
end
section
namespace Go.Abs
noncomputable section
variable[Gl][Y:Ty]
section
variable{P:Program}{orc:vD}{n:Nat}{al:AL}{σ σ1:ar}
end
theorem Ok.cut{P:Program}{g:FuncId}{ds:List D}{K X garb:List D}{k es sz:Nat}(h:Ok P g ds [.cells K] (.sl 0 0 k es sz) [.cells X])(hX:X.length=sz)(hk:k * es<=sz)(hd:∀d∈X.take (k * es),∃c,d=D.c c)(hg:sz<garb.length)(ad:K.length<=sz) :
  Ok P g ds [.cells K] (.sl 1 0 k es (k * es)) [.cells garb,.cells (X.take (k * es))]:=by
 intro M Fz w vs R hs hv;refine (h M Fz w vs R hs hv).mono λe w' he=>?_;obtain ⟨v,O,U,rfl,A,Z,E⟩:=he;have af:∀c,O 0=some c->∀b,O b=some c->b=0:=λc h b j=>A.inj b 0 c j h;refine ⟨v,λb=>if b=1 then O 0 else none,U,rfl,⟨λb c j=>?_,λb b' c j ak=>?_,A.fz,A.gl⟩,?_,?_⟩
 ·split at j
  ·rename_i e1;subst e1;obtain ⟨h1,ob,o,u,h3,h4⟩:=A.blk 0 c j;simp only[List.getElem?_cons_zero,au] at u;subst u;obtain ⟨s,T,ho,hl,hx⟩:=h4;refine ⟨h1,.cells (X.take (k * es)),o,rfl,h3,s,T,ho,by grind,λi d v q1 q2=>?_⟩;obtain ⟨x,rfl⟩:=hd d (Am q1);have q3:X[i]? = some (.c x):=by
    grind
   obtain ⟨G,q5⟩:=hx i _ v q3 q2;refine ⟨?_,q5⟩;cases G with
   |c G=>exact .c G
  simp_all
 ·simp_all
 ·cases Z with
  |sl a n cap aa ob u an ab=>
   simp only[List.getElem?_cons_zero,au] at u;subst u;refine .sl a n cap aa (.cells (X.take (k * es))) rfl (by grind [Ob.sz]) (λ_=>?_);rcases ab (by grind [Ob.sz]) with ⟨q1,q2,q3,G,q5,q6⟩ | ⟨c,o,s,T,hM,ha,hn,hl,ho,hh,j,hz⟩
   ·simp_all
   ·exact .inr ⟨c,o,s,T,by grind,ha,hn,⟨hl.1,by omega⟩,ho,hh,j,by omega⟩
 ·exact {
   size:=E.size
   frame:=E.frame
   kK:=λb c j=>by
    split at j
    ·exact E.kK 0 c j
    simp_all
   fz:=E.fz
   nQ:=E.nQ
   pP:=E.pP
   keep:=λb ob j=>by
    match b with
    |0=>simp only[List.getElem?_cons_zero,au] at j;subst j;exact ⟨.cells garb,rfl,by grind [Ob.sz],λe=>by grind [Ob.sz]⟩
    |b+1=>grind
   out:=E.out }
section
variable{α:Type}{f:α->List C}{es:Nat}
end
end
end Go.Abs
end
section
namespace Go.Abs
noncomputable section
variable[Gl][Y:Ty]
def DI{T:Type}(st:T->Int)(met:T->Option Bool):List T->Option (List T)
 |[]=>some []
 |a::r=>if (st a == 1)=true then (met a).bind λb=>(DI st met r).bind λq=>some (if b=true then a::q else q) else DI st met r
section
variable{P:Program}{c:Code}{a b:aP}
theorem vA(h:bF P c=some (.seq a b)):∃c1 d,c=.seq c1 d/\bF P c1=some a/\bF P d=some b:=by
 cases c with
 |seq c1 d=>
  simp only[bF] at h;split at h
  ·rename_i x y m p;simp only[au,aP.seq.injEq] at h;obtain ⟨rfl,rfl⟩:=h;exact ⟨c1,d,rfl,m,p⟩
  ·simp at h
 |region id ops j=>
  simp only[bF] at h;split at h
  ·cases j with
   |false=>simp at h
   |true=>simp only[if_true] at h;split at h <;> simp at h
  ·simp at h
 |cond o c1 d=>simp only[bF] at h;split at h <;> simp at h
 |scope b=>simp only[bF,cu] at h;obtain ⟨q,_,k⟩:=h;rcases J_ q with ⟨l,r,_,e⟩ | e <;> rw[e] at k <;> simp at k
 |rangeFunc g s x y=>rcases ee h with ⟨_,_,_,_,_,_,_,e⟩ | e <;> cases e
 |_=>simp[bF] at h
theorem inv_reg{os:List aH}(h:bF P c=some (.BZ os)):∃id ops,c=.region id ops false/\ops.toList.mapM (bq P ops)=some os:=by
 cases c with
 |region id ops d=>
  simp only[bF] at h;split at h
  ·rename_i k m;cases d with
   |false=>simp only[bX,cn,au,aP.BZ.injEq] at h;subst h;exact ⟨id,ops,rfl,m⟩
   |true=>simp only[if_true] at h;split at h <;> simp at h
  ·simp at h
 |seq c1 p=>simp only[bF] at h;split at h <;> simp at h
 |cond o c1 p=>simp only[bF] at h;split at h <;> simp at h
 |scope b=>simp only[bF,cu] at h;obtain ⟨q,_,j⟩:=h;rcases J_ q with ⟨l,r,_,e⟩ | e <;> rw[e] at j <;> simp at j
 |rangeFunc g s x y=>rcases ee h with ⟨_,_,_,_,_,_,_,e⟩ | e <;> cases e
 |_=>simp[bF] at h
theorem LY{o:aN}(h:bF P c=some (.cond o a b)):∃x c1 d,c=.cond x c1 d/\bS x=some o/\bF P c1=some a/\bF P d=some b:=by
 cases c with
 |cond x c1 d=>
  simp only[bF] at h;split at h
  ·rename_i t u v m p q;simp only[au,aP.cond.injEq] at h;obtain ⟨rfl,rfl,rfl⟩:=h;exact ⟨x,c1,d,rfl,m,p,q⟩
  ·simp at h
 |region id ops j=>
  simp only[bF] at h;split at h
  ·cases j with
   |false=>simp at h
   |true=>simp only[if_true] at h;split at h <;> simp at h
  ·simp at h
 |seq c1 d=>simp only[bF] at h;split at h <;> simp at h
 |scope b=>simp only[bF,cu] at h;obtain ⟨s,_,k⟩:=h;rcases J_ s with ⟨l,r,_,e⟩ | e <;> rw[e] at k <;> simp at k
 |rangeFunc g A x y=>rcases ee h with ⟨_,_,_,_,_,_,_,e⟩ | e <;> cases e
 |_=>simp[bF] at h
theorem Hc{id:Nat}(h:bF P c=some (.block id a)):∃i c1,c=.block i c1/\2 * i=id/\bF P c1=some a:=by
 cases c with
 |block i c1=>simp only[bF,cu,aP.block.injEq] at h;obtain ⟨j,m,p,rfl⟩:=h;exact ⟨i,c1,rfl,p,m⟩
 |region id ops d=>
  simp only[bF] at h;split at h
  ·cases d with
   |false=>simp at h
   |true=>simp only[if_true] at h;split at h <;> simp at h
  ·simp at h
 |seq c1 q=>simp only[bF] at h;split at h <;> simp at h
 |cond o c1 q=>simp only[bF] at h;split at h <;> simp at h
 |scope b=>simp only[bF,cu] at h;obtain ⟨j,_,k⟩:=h;rcases J_ j with ⟨l,r,_,e⟩ | e <;> rw[e] at k <;> simp at k
 |rangeFunc g s x y=>rcases ee h with ⟨_,_,_,_,_,_,_,e⟩ | e <;> cases e
 |_=>simp[bF] at h
theorem YF(h:bF P c=some (.loop a)):∃c1,c=.loop c1/\bF P c1=some a:=by
 cases c with
 |loop c1=>simp only[bF,cu,aP.loop.injEq] at h;obtain ⟨j,m,rfl⟩:=h;exact ⟨c1,rfl,m⟩
 |region id ops d=>
  simp only[bF] at h;split at h
  ·cases d with
   |false=>simp at h
   |true=>simp only[if_true] at h;split at h <;> simp at h
  ·simp at h
 |seq c1 p=>simp only[bF] at h;split at h <;> simp at h
 |cond o c1 p=>simp only[bF] at h;split at h <;> simp at h
 |scope b=>simp only[bF,cu] at h;obtain ⟨j,_,k⟩:=h;rcases J_ j with ⟨l,r,_,e⟩ | e <;> rw[e] at k <;> simp at k
 |rangeFunc g q x y=>rcases ee h with ⟨_,_,_,_,_,_,_,e⟩ | e <;> cases e
 |_=>simp[bF] at h
end
section
variable{P:Program}{ops:Array Oper}{Q:Exit->Act->World->Prop}{a:Act}{w:World}{n:Nat}{al:AL}{σ:ar}{M:Nat->Option Nat}{Fz:Nat->Prop}
theorem op_wide{o:Oper}{K:Act->World->Prop}(hd:∀c,o.op≠.defer c)(h:o.wp P a w K Q):o.wpIn Fence.wide 0 P a w K Q:=by
 refine ⟨λf _=>trivial,?_⟩;rw[Oper.semAt_eq _ _ _ hd];unfold Oper.wp at h;generalize (execOp a.eval o).run P w=r at *;cases r with
 |ok j g=>
  cases j with
  |value v=>exact h
  |skip=>exact h
  |defer d=>exact h
  |enter f args=>exact ⟨λe=>by simp[Fence.wide] at e,callsIn_wide.2 h⟩
  |row row args=>exact ⟨λe=>by simp[Fence.wide] at e,λc k _=>let ⟨v,g,r,s⟩:=h c k;⟨v,g,r,stepsIn_wide.2 s⟩⟩
  |_=>exact h.elim
 |halt e g=>cases e <;> first | exact h | exact h.elim
theorem Ti{i:Nat}{K:Act->World->Prop}(hd:∀(i:Nat) o c,ops[i]? = some o->o.op≠.defer c)(g:¬LetsOut Q)(h:wpOp P ops Q i K a w):wpOpIn Fence.wide 0 P ops Q i K a w:=by
 unfold wpOp at h;unfold wpOpIn;split at h
 ·simp_all
 ·rename_i o e;simp only[e];split at h
  ·rename_i d;simp only[d,if_true]
   grind [op_wide]
  ·rename_i d;simp only[d,bX,cn];exact ⟨λf _=>trivial,h⟩
theorem We{orc:gj}(O:nP P orc)(hd:∀(i:Nat) o c,ops[i]? = some o->o.op≠.defer c)(u:¬LetsOut Q){g:List Nat}:∀(os:List aH)(k:Nat)(σ σ':ar)(M:Nat->Option Nat)(Fz:Nat->Prop)(w:World)(e d:List D)(a:Act)(wr:List Nat),
  (∀j ao,os[j]? = some ao->∃o,ops[k+j]? = some o/\bq P ops o=some ao)->Rel σ M Fz w->dr σ M Fz w e a.tmps->oq P orc os e σ=some (d,σ',wr) ->
  (∀v q x p,v.defers=a.defers->Rel σ' x p q->dr σ' x p q d v.tmps->bD σ M Fz w σ' x p q->σ.length<=σ'.length->wpOpsIn Fence.wide 0 P ops Q g v q) ->
  wpOpsIn Fence.wide 0 P ops Q (List.range' k os.length++g) a w:=by
 intro os;induction os with
 |nil=>intro k σ σ' M Fz w e d a wr _ R E h u;simp only[oq,au,aT] at h;obtain ⟨rfl,rfl,_⟩:=h;exact u a w M Fz rfl R E (bD.refl R) (cR _)
 |cons ao os ih=>
  intro k σ σ' M Fz w e d a wr m R E h U;simp only[oq] at h;split at h
  ·rename_i r σ1 w1 X;split at h
   ·rename_i s Z w2 h2;simp only[au,aT] at h;obtain ⟨rfl,rfl,_⟩:=h;obtain ⟨o,ho,y⟩:=m 0 ao (by simp);simp only[List.length_cons,List.range'_succ,List.cons_append];rw[wpOpsIn_cons];refine Ti hd u (HT O R E (by omega) y X _ λa1 q M1 A aa R1 E1 G t=>?_);refine ih (k+1) σ1 Z M1 A q r s a1 w2 (λj K hj=>?_) R1 E1 h2 λa2 L M2 N ab R2 E2 S T=>?_
    ·obtain ⟨o',ad,af⟩:=m (j+1) K (by simp_all)
     grind
    ·exact U a2 L M2 N (by simp_all) R2 E2 (G.trans S t) (lA t T)
   simp_all
  simp_all
theorem d_{orc:gj}(O:nP P orc)(hd:∀(i:Nat) o c,ops[i]? = some o->o.op≠.defer c)(t:¬LetsOut Q){e:List Nat}{os:List aH}{k:Nat}(m:∀j ao,os[j]? = some ao->∃o,ops[k+j]? = some o/\bq P ops o=some ao)
  (h:cd P orc 0 os n al σ λp σ' _=>∀q g r d,q.defers=a.defers->Rel σ' r d g->eI n σ' r d g p q.tmps->bD σ M Fz w σ' r d g->wpOpsIn Fence.wide 0 P ops Q e q g)
  (R:Rel σ M Fz w) (A:eI n σ M Fz w al a.tmps):wpOpsIn Fence.wide 0 P ops Q (List.range' k os.length++e) a w:=by
 obtain ⟨p,σ',N,u,v⟩:=h;obtain ⟨x,y,E⟩:=u _ A.c_.2;exact We O hd t os k σ σ' M Fz w _ x a _ m R A.c_.1 (Lh _ _ _ _ _ _ y) λq g r d s G K L S=>v q g r d s G (eI.Vh K E) L
theorem mapM_at{os:List aH}(h:ops.toList.mapM (bq P ops)=some os):os.length=ops.size/\∀(j:Nat) ao,os[j]? = some ao->∃o,ops[j]? = some o/\bq P ops o=some ao:=by
 obtain ⟨d,e⟩:=MV h
 simp_all
theorem zl{cs:List D}{m:Nat}(h:cs.length=m):uX (some m) cs 0=some (.agg cs):=by
 simp only[uX]
 grind
theorem wO.step{B:Nat}{J:(Nat->Prop)->(Nat->Prop)->World->Prop}(h:wO B J){σ σ':ar}{M s:Nat->Option Nat}{F F' U:Nat->Prop}{W W':World}(u:J F U W)(G:∀b c,M b=some c->¬U c/\B<=c)(E:bD σ M F W σ' s F' W')(x:Rel σ' s F' W') :
  J F' (λc=>U c∨F' c) W'/\∀b c,s b=some c->¬(U c∨F' c)/\B<=c:=by
 have A:=h.lt F U W u;have K:=h.le F U W u;refine ⟨h.grow F U W' F' (h.off F U W W' u E.size (λc j=>E.frame c (j.elim (A c) (by omega)) λb o=>?_) E.out) (λc j=>(E.fz c j).1) λc j=>?_,λb c o=>?_⟩
 ·grind
 ·rcases E.nQ c j with O | ⟨b,o⟩ | O
  ·simp_all
  ·exact .inr ⟨(G b c o).1,(G b c o).2,x.fz c j⟩
  ·exact .inr ⟨λX=>by grind,by omega,x.fz c j⟩
 ·have Z:=(x.blk b c o).1;rcases E.kK b c o with ⟨b0,R⟩ | R
  ·grind
  grind
theorem eI.data{o:AL}{j:Array Value}(h:eI n σ M Fz w al j)(hs:∀t d,lk t o=some d->lk t al=some d/\d.low 0=true):eI n [] (λ_=>none) Fz w o j:=
 ⟨h.1,λt d s=>let ⟨h1,h2⟩:=hs t d s;let ⟨v,h3,h4⟩:=h.2 t d h1;⟨v,h3,h4.data h2 _ _⟩⟩
theorem Hy{h:List Nat}{i d t:Nat}{o:Oper}{g:Option (Nat×Bool)}{r:List D}{c:Nat}{x:C}{arr:Array Value}{T:TypeId}(ho:ops[i]? = some o)(q:bq P ops o=some ⟨some d,.load none (.t t),g⟩)(K:Gl.ok Fz w)(E:dr σ M Fz w r a.tmps)(hw:h_ r g=some true)
  (S:a.tmps[t]? = some (.pointer (some ⟨c,0,none⟩))) (hh:w.heap[c]? = some (.cells arr T (0,0))) (hl:1<=arr.size) (U:∀u,arr[0]? = some u->VC Fz w x u/\u.oneCell'=true)
  (hK:∀v,VC Fz w x v->wpOpsIn Fence.wide 0 P ops Q h (a.put (some d) v) w):wpOpsIn Fence.wide 0 P ops Q (i::h) a w:=by
 unfold bq at q;split at q
 ·rename_i g' ao hg s;simp only[au,aH.mk.injEq] at q;obtain ⟨X,rfl,rfl⟩:=q;have L:=yZ s;rcases uA s with ⟨f,args,aa,of,os,_,_,_,e⟩ | ⟨h0,N,_⟩
  ·simp at e
  have m:=oU E hg hw;rw[wpOpsIn_cons];unfold wpOpIn;rw[ho];simp only[m,if_true];have ht:t<a.tmps.size:=(BO.1 S).1;have E1:dr [.cells [.c x]] (λb=>if b=0 then some c else none) Fz w ((List.replicate a.tmps.size D.any).set t (.ptr 0 0 1)) a.tmps:=by
   refine ⟨by simp,λj d v k p=>?_⟩;rw[yB7] at k;split at k
   ·rename_i e;subst e;split at k
    ·simp only[au] at k;subst k;rw[S] at p;simp only[au] at p;subst p;exact .ptr _ (.cells [.c x]) rfl (cR _) λ_=>⟨c,rfl,rfl⟩
    simp_all
   ·have:d=.any:=by
     grind
    subst this;exact .any v
  have O:ba P (λ_ _ _=>none) (.load none (.t t)) ((List.replicate a.tmps.size D.any).set t (.ptr 0 0 1)) [.cells [.c x]]=some (.c x,[.cells [.c x]],[]):=by
   have:aN.ev ((List.replicate a.tmps.size D.any).set t (.ptr 0 0 1)) (.t t)=.ptr 0 0 1:=by grind [aN.ev]
   simp only[ba,this];rfl
  have A:∃v,(execOp a.eval o).run P w=.ok (.value v) w/\VC Fz w x v:=by
   cases Ee (M:=λb=>if b=0 then some c else none) (Fz:=Fz) (w:=w) K E1 h0 N O with
   |y q _=>grind [cat]
   |l _ _ hy=>
    obtain ⟨v,k,p⟩:=hy λb off sz c' cs hb Z G=>by
     have R:b=0:=by simp_all
     subst R;simp only[if_true,au] at Z;subst Z;simp only[List.getElem?_cons_zero,au,Ob.cells.injEq] at G;subst G;refine ⟨arr,T,hh,by omega,λj d u k p=>?_⟩;have hj:j=0:=by grind
     subst hj;simp only[List.getElem?_cons_zero,au] at k;subst k;exact ⟨.c (U u p).1,(U u p).2⟩
    grind [V.qh]
   |g q _=>grind [cat]
  obtain ⟨v,hr,hV⟩:=A;refine ⟨λf _=>trivial,?_⟩;rw[Oper.semAt_eq _ _ _ L,hr];show wpOpsIn Fence.wide 0 P ops Q h (a.put o.dst v) w
  simp_all
 simp_all
theorem PM{m:List Nat}{i d f t l:Nat}{o:Oper}{g:Option (Nat×Bool)}{q:List D}{v:Value}{R:Ending->World->Prop}(X:ops[i]? = some o)(u:bq P ops o=some ⟨some d,.call (.t f) [.t t],g⟩)(E:dr σ M Fz w q a.tmps)(Z:h_ q g=some true)
  (hf:a.tmps[f]? = some (.func (.yield l) #[] #[])) (ht:a.tmps[t]? = some v) (hy:YieldAt Fence.wide 0 P l #[v] w R)
  (hK:∀e A,R e A->∃b,e=.returned b/\wpOpsIn Fence.wide 0 P ops Q m (a.put (some d) b) A):wpOpsIn Fence.wide 0 P ops Q (i::m) a w:=by
 unfold bq at u;split at u
 ·rename_i g' ao hg G;simp only[au,aH.mk.injEq] at u;obtain ⟨O,rfl,rfl⟩:=u;have tm:∀(x:Operand)(t:Nat),bS x=some (.t t)->x=.tmp t:=λx t S=>by
   cases x <;> simp[bS] at S
   rw[S]
  rcases uA G with ⟨f',args,aa,of,os,ab,h1,h2,e⟩ | ⟨_,K,_⟩
  ·simp only[kO.call.injEq] at e;obtain ⟨rfl,rfl⟩:=e;have L:=tm f' f h1;subst L;have N:args.map a.eval=#[v]:=by
    obtain ⟨l1,l2⟩:=MV (show args.toList.mapM bS=some [.t t] from h2);have hl:args.size=1:=by simp_all
    have T:args=#[.tmp t]:=by
     apply Array.ext
     ·omega
     ·intro j ad af;have hj:j=0:=by omega
      subst hj;obtain ⟨y,ak,an⟩:=l2 0 (.t t) rfl
      grind
    rw[T];simp[Act.eval,ht]
   have p:=oU E hg Z;rw[wpOpsIn_cons];unfold wpOpIn;rw[X];simp only[p,if_true];obtain ⟨fn,r,h,s,U,k⟩:=hy;have av:a.eval (.tmp f)=.func (.yield l) #[] #[]:=by simp[Act.eval,hf]
   have hr:(execOp a.eval o).run P w=.ok (.round l fn r h s) w:=by grind [Go.execOp,Go.resolve,Go.Deferred.ofValue,Go.invoke]
   refine ⟨λf _=>trivial,?_⟩;rw[Oper.semAt_eq _ _ _ (by grind),hr,Oper.uponIn_round];refine ⟨λhh=>by simp[Fence.wide] at hh,k.mono λe A T=>?_⟩
   grind
  grind [Ar]
 simp_all
theorem ni{c:Code}{os:List aH}(k:bF P c=some (.BZ os))(h:∀ops:Array Oper,ops.size=os.length->(∀(j:Nat) ao,os[j]? = some ao->∃o,ops[j]? = some o/\bq P ops o=some ao)->(∀(i:Nat) o c,ops[i]? = some o->o.op≠.defer c) ->
  wpOpsIn Fence.wide 0 P ops (nr Q) (List.range os.length) a w):c.wpIn Fence.wide 0 P Q a w:=by
 obtain ⟨id,ops,rfl,m⟩:=inv_reg k;obtain ⟨e,g⟩:=mapM_at m;refine wpIn_mono (Q:=nr Q) (wpIn_region ?_) λ_ _ _ h=>h.1;rw[<-e];refine h ops e.symm g λj o c p=>?_;have d:j<os.length:=by grind
 obtain ⟨q,r,s⟩:=g j _ (eH d)
 grind [qG]
end
end
end Go.Abs
end
section
namespace Go.Abs
noncomputable section
variable[Gl][Y:Ty]
def able2(es:Nat)(z:List D):List aH:=[⟨some 9,.idx es none (.t 5) (.t 7),none⟩,⟨some 10,.load (some es) (.t 9),none⟩,⟨some 4,.alloc z,none⟩,⟨none,.store es (.t 4) (.t 10),none⟩]
def Il(es so ti tb:Nat):List aH:=[⟨some 11,.Gq so (.t 4),none⟩,⟨some 12,.load none (.t 11),none⟩,⟨some 13,.gen (.binOp .eql ti (.tmp 12) (.const (.int .i64 1)) ti) tb,none⟩,⟨some 14,.Ai (.t 13),none⟩,⟨some 15,.load (some es) (.t 4),some (14,true)⟩]
def Vj:aH:=⟨some 16,.load none (.t 1),some (14,true)⟩
def JV(gm:Nat):List aH:=[⟨some 17,.call (.k (.c (.fn (.func gm) [] []))) [(.t 15),(.t 16)],some (14,true)⟩,⟨some 18,.pick (.t 14) (.t 17) (.k (.c (.lit (.bool false)))),none⟩,⟨some 19,.Ai (.t 18),none⟩]
def Av(es:Nat):List aH:=[⟨some 20,.Ai (.t 0),some (19,true)⟩,⟨some 21,.load (some es) (.t 4),some (19,true)⟩]
def OH:aH:=⟨some 22,.call (.t 20) [(.t 21)],some (19,true)⟩
def yJ(tb:Nat):List aH:=[⟨some 23,.gen (.unOp .not tb (.tmp 22)) tb,some (19,true)⟩,⟨some 24,.pick (.t 19) (.t 23) (.k (.c (.lit (.bool false)))),none⟩]
def Wc(es so ti tb gm:Nat):List aH:=Il es so ti tb++(Vj::(JV gm++(Av es++(OH::yJ tb))))
def WB(ti:Nat):List aH:=[⟨some 8,.gen (.binOp .lss ti (.tmp 7) (.tmp 6) ti) 0,none⟩]
def able4(ti:Nat):List aH:=[⟨some 25,.gen (.binOp .add ti (.tmp 7) (.const (.int .i64 1)) ti) ti,none⟩,⟨some 7,.Ai (.t 25),none⟩]
def able0:List aH:=[⟨some 5,.load none (.t 1),none⟩,⟨some 6,.len (.t 5),none⟩,⟨some 7,.Ai (.k (.c (.lit (.int .i64 0)))),none⟩]
def ableL(es so ti tb gm:Nat)(z:List D):aP:=.seq (.BZ (WB ti)) (.seq (.cond (.t 8) .skip (.exit 0)) (.seq (.block 2 (.seq (.BZ (able2 es z)) (.seq (.BZ (Wc es so ti tb gm)) (.cond (.t 24) .ret .skip)))) (.BZ (able4 ti))))
def ableA(es so ti tb gm:Nat)(z:List D):kS:=⟨2,26,[],.seq (.BZ able0) (.block 0 (.loop (ableL es so ti tb gm z))),true⟩
section
variable{P:Program}{n:Nat}{al:AL}{σ:ar}{M:Nat->Option Nat}{F F':Nat->Prop}{W W':World}
theorem eI.put{a:Act}{t:Nat}{d:D}{v:Value}(A:eI n σ M F W al a.tmps)(o:t<n)(u:V σ M F W d v):eI n σ M F W ((t,d)::al) (a.put (some t) v).tmps:=by
 refine ⟨by simp[Act.put,A.1],λs e hs=>?_⟩;simp only[lk] at hs;simp only[Act.put];split at hs
 ·rename_i j;have:=cO j;subst this;simp only[au] at hs;subst hs;refine ⟨v,?_,u⟩;rw[Zw,if_pos rfl,if_pos (by rw[A.1];exact o)]
 ·rename_i j;obtain ⟨x,E,G⟩:=A.2 s e hs;refine ⟨x,?_,G⟩;rw[Zw,if_neg (λe=>by simp_all)];exact E
theorem eI.dataF {j:Array Value} (A:eI n σ M F W al j) (s:∀t d,lk t al=some d→∃x,d=.c x) (u:∀c:Nat,F c→F' c∧W'.heap[c]? = W.heap[c]?):eI n [] (fun _=>none) F' W' al j:=
 ⟨A.1,fun t d o=>by
  obtain ⟨v,E,G⟩:=A.2 t d o
  obtain ⟨x,rfl⟩:=s t d o
  exact ⟨v,E,.c (G.qh.mono u)⟩⟩
theorem eI.lks{o:AL}{j:Array Value}(A:eI n σ M F W al j)(hs:∀t d,lk t o=some d->lk t al=some d):eI n σ M F W o j:=⟨A.1,λt d s=>A.2 t d (hs t d s)⟩
theorem Bb{ops:Array Oper}{d os:List aH}{k:Nat}(h:∀(j:Nat) ao,d[j]? = some ao->∃o,ops[j]? = some o/\bq P ops o=some ao)(e:∀j,j<os.length->d[k+j]? = os[j]?):∀j ao,os[j]? = some ao->∃o,ops[k+j]? = some o/\bq P ops o=some ao:=
 λj ao g=>h (k+j) ao (by grind)
def nK(i:Nat)(l:List (TT i))(d pv:Value)(k:Int):AL:=[(7,I k),(6,I l.length),(5,.c (.cB false (l.map (enc i)))),(0,.c (.lit d)),(1,.c (.lit pv))]
theorem ableH_c{i:Nat}{l:List (TT i)}{e pv:Value}{k:Int}:∀t d,lk t (nK i l e pv k)=some d->∃x,d=.c x:=by
 intro t d h;have:=nA h;simp only[nK,gn,KE,KR,aT] at this
 grind
theorem RY(c:CC)(a:c.dn):Cz c (qX c a)=some a:=by
 cases c with
 |int k=>simp only[qX,Cz];split <;> first | rfl | grind
 |bool=>rfl
 |str=>rfl
 |sl j=>simp only[qX,Cz,fo];split <;> first | rfl | omega
 |fk d=>rfl
theorem rdT_exp:∀(cs:List CC)(x:aQ cs),Dw cs (vj cs x)=some x:=by
 intro cs;induction cs with
 |nil=>intro x;rfl
 |cons c cs ih=>grind [vj,Dw,RY]
theorem enc_nrm(i:Nat)(a:TT i)(l:List (TT i)):([ST (enc i a),.c (.cB false (l.map (enc i)))]:List D).map BT=[ST (enc i a),.c (.cB false (l.map (enc i)))]/\(([ST (enc i a),.c (.cB false (l.map (enc i)))]:List D).all λd=>d.low 0&&d.plain)=true:=by
 have h:yu [.st i,.c (.sl i)] (tvV [.st i,.c (.sl i)] (a,l,()))=some (a,l,()):=by
  have e:qI (.st i) (de.tv (.st i) a)=some a:=by
   show Cr i (.agg (exp i a))=some a
   grind [Cr,exp,rdT_exp,Ty.mp]
  have g:qI (.c (.sl i)) (de.tv (.c (.sl i)) l)=some l:=RY (.sl i) l
  grind [tvV,yu]
 exact QC h (.cons (de.ER (.st i) a) (.cons (de.ER (.c (.sl i)) l) .nil))
end
section
variable{P:Program}{i so ti tb gm:Nat}{z:List D}{st:TT i->Int}{metf:TT i->List (TT i)->Option Bool}
def RN(gm:Nat)(ds:List D)(b:Bool):xj:=open Classical in [(gm,λd=>if d=ds then some (B b) else none)]
theorem VY{ds:List D}{b:Bool}(h:Pure P gm ds (B b)):nP P (λ_=>CN (RN gm ds b)):=λ_=>nN λp e d r g=>by grind [RN]
variable{B:Nat}{lb:Array Value}{J:Nat->(Nat->Prop)->(Nat->Prop)->World->Prop}{Jx:(Nat->Prop)->(Nat->Prop)->World->Prop}{l:List (TT i)}{items:List (List D)}{ly:Nat}{pv:Value}
def ableEnd(B:Nat)(J:Nat->(Nat->Prop)->(Nat->Prop)->World->Prop)(Jx:(Nat->Prop)->(Nat->Prop)->World->Prop)(H:AL)(it:Nat)(g:Exit->Act->World->Prop):Prop:=
 ∀F' e W' d (b:Bool),d.defers=[]->eI 26 [] (λ_=>none) F' W' ((24,Abs.B b)::H) d.tmps->((b=false/\J it F' e W')∨(b=true/\Jx F' e W'))->g .normal d W'
theorem able_r3 (dx:P.follows .mixedOrders=true) (b4:∀a,(enc i a)[so]? = some (.lit (.int .i64 (st a))))
  (ad:∀x:Int,gV P .eql ti (.tmp 12) (.const (.int .i64 1)) (.int .i64 x) (.int .i64 1)=some (.bool (x == 1))) (af:∀b:Bool,fq P (Op.unary .not (.bool b))=some (.bool (!b)))
  (hm:bH P gm ⟨[.st i,.c (.sl i)],[.c .bool],fun a=>metf a.1 a.2.1⟩)
  (hJ:∀k,wO B (J k)) (be:wO B Jx) (ak:∀k F U W,J k F U W→ZN F W [[.cB false (l.map (enc i))]] lb) (bh:lb[0]? = some pv)
  (y:∀k ds F U W vs,items[k]? = some ds→J k F U W→Vals F W ds vs →
   YieldAt Fence.wide 0 P ly vs W fun e W'=>∃F' E,Kept F U W F' E W'∧((e=.returned (.bool true)∧J (k+1) F' E W')∨(e=.returned (.bool false)∧Jx F' E W')))
  {c3:Code} (an:bF P c3=some (.BZ (Wc (aw i) so ti tb gm))) {a:TT i} {k:Int} {it:Nat} {F U:Nat→Prop} {W:World} {M:Nat→Option Nat} {s:Act} {Qy:Exit→Act→World→Prop}
  (R:Rel [.cells ((enc i a).map .c)] M F W) (A:eI 26 [.cells ((enc i a).map .c)] M F W ((4,.ptr 0 0 (aw i))::nK i l (.func (.yield ly) #[] #[]) pv k) s.tmps) (b5:s.defers=[]) (r:J it F U W) (hO:∀b c,M b=some c→¬U c∧B≤c)
  (av:st a=1→∃b,metf a l=some b∧(b=true→items[it]? = some [ST (enc i a)]))
  (hK:∀b,(st a=1→metf a l=some b)→(st a≠1→b=false)→ableEnd B J Jx (nK i l (.func (.yield ly) #[] #[]) pv k) (if b=true then it+1 else it) Qy):c3.wpIn Fence.wide 0 P Qy s W:=by
 have L:((enc i a).map D.c).length=aw i:=by rw [xw,rT]
 have o:mP [Ob.cells ((enc i a).map D.c)] 0 (aw i)=some ((enc i a).map D.c):=PE rfl L
 have N:uX none ((enc i a).map D.c) (0+so)=some (I (st a)):=by
  show ((enc i a).map D.c)[0+so]? = _
  simp_all
 have S:uX (some (aw i)) ((enc i a).map D.c) 0=some (ST (enc i a)):=zl L
 by_cases h1:st a=1
 ·obtain ⟨b,hb,NM⟩:=av h1
  obtain ⟨bi,bk⟩:=enc_nrm i a l
  have O:=VY (P:=P) (gm:=gm) (ds:=[ST (enc i a),.c (.cB false (l.map (enc i)))]) (b:=b) (hm (a,l,()) b hb)
  have aa:CN (RN gm [ST (enc i a),.c (.cB false (l.map (enc i)))] b) gm [ST (enc i a),.c (.cB false (l.map (enc i)))] [Ob.cells ((enc i a).map D.c)]=some (Abs.B b,[Ob.cells ((enc i a).map D.c)],[]):=
   zF (F:=fun bl=>open Classical in if bl=[ST (enc i a),.c (.cB false (l.map (enc i)))] then some (Abs.B b) else none) (by simp [RN,UZ]) bk bi (by simp) rfl
  refine ni an fun ops hs g m=>?_
  show wpOpsIn Fence.wide 0 P ops (nr Qy) (List.range' 0 (Il (aw i) so ti tb).length++(5::(List.range' 6 (JV gm).length++(List.range' 9 (Av (aw i)).length++(11::(List.range' 12 (yJ tb).length++[])))))) s W
  refine d_ O m Ug (Bb g fun j r=>?_) ?_ R A
  ·have:j=0∨j=1∨j=2∨j=3∨j=4:=by simp [Il] at r; omega
   rcases this with rfl | rfl | rfl | rfl | rfl <;> rfl
  unfold Il
  refine cd.op (HQ rfl) iy rfl (cd.op (rV rfl o N) iy rfl (cd.op (dN (v:=.bool (st a == 1)) rfl rfl rfl rfl (ad _) rfl) iy rfl (cd.op (zV rfl) iy rfl (cd.op (rV rfl o S) (gz rfl (by simp [h1])) rfl (cd.nil ?_)))))
  intro a1 W1 M1 F1 b6 R1 A1 E1
  obtain ⟨j1,o1⟩:=(hJ it).step r hO E1 R1
  obtain ⟨c,rfl,b7,T,hh,hl,hx⟩:=(ak it _ _ _ j1).2 0 _ pv rfl bh
  obtain ⟨o5,bt,bu⟩:=g 5 Vj rfl
  obtain ⟨v1,bv,bw⟩:=A1.2 1 _ rfl
  have:=bw.bZ
  subst this
  refine Hy bt bu R1.gl A1.c_.1 (gz rfl (by simp [h1]) 26 _ A1.c_.2) bv hh (by omega) (fun u hu=>hx 0 _ u rfl hu) fun v hv=>?_
  have A2:=A1.put (t:=16) (d:=.c (.cB false (l.map (enc i)))) (by omega) (.c hv)
  refine d_ O m Ug (Bb g fun j r=>?_) ?_ R1 A2
  ·have:j=0∨j=1∨j=2:=by simp [JV] at r; omega
   rcases this with rfl | rfl | rfl <;> rfl
  unfold JV
  refine cd.op (JD rfl rfl aa) (gz rfl (by simp [h1])) rfl (cd.op (uK rfl (by simp [h1]) rfl) iy rfl (cd.op (zV rfl) iy rfl (cd.nil ?_)))
  intro a3 W3 M3 F3 b0 R3 A3 E3
  obtain ⟨j3,o3⟩:=(hJ it).step j1 o1 E3 R3
  have b3:a3.defers=[]:=by rw [b0]; show a1.defers=[]; simp_all
  cases b with
  | false =>
   show wpOpsIn Fence.wide 0 P ops (nr Qy) (List.range' 9 (Av (aw i)++(OH::yJ tb)).length++[]) a3 W3
   refine d_ O m Ug (Bb g fun j r=>?_) ?_ R3 A3
   ·have:j=0∨j=1∨j=2∨j=3∨j=4:=by simp [Av,yJ] at r; omega
    rcases this with rfl | rfl | rfl | rfl | rfl <;> rfl
   refine cd.no (Pe rfl rfl) rfl (cd.no (Pe rfl rfl) rfl (cd.no (Pe rfl rfl) rfl (cd.no (Pe rfl rfl) rfl (cd.op (pY rfl rfl rfl) iy rfl (cd.nil ?_)))))
   intro a4 W4 M4 F4 ax R4 G E4
   obtain ⟨j4,_⟩:=(hJ it).step j3 o3 E4 R4
   refine ⟨hK false (fun _=>hb) (fun _=>rfl) F4 _ W4 a4 false (by simp_all) (G.data fun t d K=>?_) (.inl ⟨rfl,j4⟩),by simp⟩
   have:=nA K
   simp only [nK,gn,KE,KR,aT] at this
   rcases this with ⟨rfl,rfl⟩ | ⟨rfl,rfl⟩ | ⟨rfl,rfl⟩ | ⟨rfl,rfl⟩ | ⟨rfl,rfl⟩ | ⟨rfl,rfl⟩ <;> exact ⟨rfl,rfl⟩
  | true =>
   refine d_ O m Ug (Bb g fun j r=>?_) ?_ R3 A3
   ·have:j=0∨j=1:=by simp [Av] at r; omega
    rcases this with rfl | rfl <;> rfl
   unfold Av
   refine cd.op (zV rfl) (gz rfl rfl) rfl (cd.op (rV rfl o S) (gz rfl rfl) rfl (cd.nil ?_))
   intro a4 W4 M4 F4 ax R4 G E4
   obtain ⟨j4,o4⟩:=(hJ it).step j3 o3 E4 R4
   obtain ⟨b8,a0,a2⟩:=g 11 OH rfl
   obtain ⟨b9,a5,a7⟩:=G.2 20 _ rfl
   have:=a7.bZ
   subst this
   obtain ⟨a8,a9,bb⟩:=G.2 21 _ rfl
   refine PM a0 a2 G.c_.1 (gz rfl rfl 26 _ G.c_.2) a5 a9 (y it _ F4 _ W4 #[a8] (NM rfl) j4 ⟨rfl,fun q d v g1 g2=>?_⟩) fun e w' he=>?_
   ·have hq:q=0:=by
     grind
    subst hq
    simp only [List.getElem?_cons_zero,au] at g1
    subst g1
    have g2:some a8=some v:=g2
    simp only [au] at g2
    subst g2
    exact bb.data (by grind) _ _
   ·obtain ⟨F5,U5,kp,b1⟩:=he
    have Z:∀(q:Bool) (X:(Nat→Prop)→(Nat→Prop)→World→Prop),wO B X→X F5 U5 w'→(∀F' E W',X F' E W'→((!q)=false∧J (it+1) F' E W')∨((!q)=true∧Jx F' E W'))→wpOpsIn Fence.wide 0 P ops (nr Qy) (List.range' 12 (yJ tb).length++[]) (a4.put (some 22) (.bool q)) w':=by
     intro q X hX bc bd
     have A5:eI 26 [] (fun _=>none) F5 w' ((22,Abs.B q)::(19,Abs.B true)::nK i l (.func (.yield ly) #[] #[]) (.pointer (some ⟨c,0,none⟩)) k) (a4.put (some 22) (.bool q)).tmps:=by
      refine eI.put (eI.dataF (G.lks fun t d K=>?_) (fun t d K=>?_) kp.fz) (by omega) (.c (.lit _))
      ·have:=nA K
       simp only [nK,gn,KE,KR,aT] at this
       rcases this with ⟨rfl,rfl⟩ | ⟨rfl,rfl⟩ | ⟨rfl,rfl⟩ | ⟨rfl,rfl⟩ | ⟨rfl,rfl⟩ | ⟨rfl,rfl⟩ <;> rfl
      ·have:=nA K
       simp only [nK,gn,KE,KR,aT] at this
       grind
     refine d_ O m Ug (Bb g fun j r=>?_) ?_ (hX.rel _ _ _ bc) A5
     ·have:j=0∨j=1:=by simp [yJ] at r; omega
      rcases this with rfl | rfl <;> rfl
     unfold yJ
     refine cd.op (Zl (v:=.bool (!q)) rfl rfl (af q) rfl) (gz rfl rfl) rfl (cd.op (uK rfl rfl rfl) iy rfl (cd.nil ?_))
     intro a6 W6 M6 F6 b2 R6 A6 E6
     obtain ⟨j6,_⟩:=hX.step bc (fun b c h=>by simp at h) E6 R6
     refine ⟨hK true (fun _=>hb) (fun h=>absurd h1 h) F6 _ W6 a6 (!q) (by rw [b2]; show a4.defers=[]; simp_all) (A6.data fun t d K=>?_) (bd _ _ _ j6),by simp⟩
     have:=nA K
     simp only [nK,gn,KE,KR,aT] at this
     rcases this with ⟨rfl,rfl⟩ | ⟨rfl,rfl⟩ | ⟨rfl,rfl⟩ | ⟨rfl,rfl⟩ | ⟨rfl,rfl⟩ | ⟨rfl,rfl⟩ <;> exact ⟨rfl,rfl⟩
    rcases b1 with ⟨rfl,ab⟩ | ⟨rfl,ab⟩
    ·exact ⟨_,rfl,Z true (J (it+1)) (hJ _) ab fun F' E W' h=>.inl ⟨rfl,h⟩⟩
    ·exact ⟨_,rfl,Z false Jx be ab fun F' E W' h=>.inr ⟨rfl,h⟩⟩
 ·have hf:(st a == 1)=false:=by simp_all
  have O:nP P (fun _=>CN []):=fun _=>nN fun p hp=>by grind
  refine ni an fun ops hs g m=>?_
  show wpOpsIn Fence.wide 0 P ops (nr Qy) (List.range' 0 (Wc (aw i) so ti tb gm).length++[]) s W
  refine d_ O m Ug (fun j ao r=>by simp_all) ?_ R A
  refine cd.op (HQ rfl) iy rfl (cd.op (rV rfl o N) iy rfl (cd.op (dN (v:=.bool (st a == 1)) rfl rfl rfl rfl (ad _) rfl) iy rfl (cd.op (zV rfl) iy rfl (cd.no (Pe rfl (by simp [hf])) rfl (cd.no (Pe rfl (by simp [hf])) rfl (cd.no (Pe rfl (by simp [hf])) rfl
   (cd.op (pY rfl hf rfl) iy rfl (cd.op (zV rfl) iy rfl (cd.no (Pe rfl rfl) rfl (cd.no (Pe rfl rfl) rfl (cd.no (Pe rfl rfl) rfl (cd.no (Pe rfl rfl) rfl (cd.op (pY rfl rfl rfl) iy rfl (cd.nil ?_))))))))))))))
  intro a4 W4 M4 F4 ax R4 G E4
  obtain ⟨j4,_⟩:=(hJ it).step r hO E4 R4
  refine ⟨hK false (fun h=>absurd h h1) (fun _=>rfl) F4 _ W4 a4 false (by simp_all) (G.data fun t d K=>?_) (.inl ⟨rfl,j4⟩),by simp⟩
  have:=nA K
  simp only [nK,gn,KE,KR,aT] at this
  rcases this with ⟨rfl,rfl⟩ | ⟨rfl,rfl⟩ | ⟨rfl,rfl⟩ | ⟨rfl,rfl⟩ | ⟨rfl,rfl⟩ | ⟨rfl,rfl⟩ <;> exact ⟨rfl,rfl⟩
end
end
end Go.Abs
end
section
namespace Go.Abs
noncomputable section
variable[Gl][Y:Ty]
section
variable{P:Program}{c:Code}
theorem KK(h:bF P c=some .skip):c=.skip:=by
 cases c with
 |skip=>rfl
 |region id ops d=>
  simp only[bF] at h
  grind
 |seq c1 e=>grind [bF]
 |cond o c1 e=>grind [bF]
 |scope b=>grind [bF,Option.map_eq_some_iff,J_]
 |rangeFunc g j x y=>grind [ee]
 |_=>simp[bF] at h
theorem ZW(h:bF P c=some .ret):c=.ret:=by
 cases c with
 |ret=>rfl
 |region id ops d=>
  simp only[bF] at h;split at h
  ·cases d with
   |false=>simp at h
   |true=>simp only[if_true] at h;split at h <;> simp at h
  ·simp at h
 |seq c1 k=>simp only[bF] at h;split at h <;> simp at h
 |cond o c1 k=>simp only[bF] at h;split at h <;> simp at h
 |scope b=>simp only[bF,cu] at h;obtain ⟨m,_,j⟩:=h;rcases J_ m with ⟨l,r,_,e⟩ | e <;> rw[e] at j <;> simp at j
 |rangeFunc g p x y=>rcases ee h with ⟨_,_,_,_,_,_,_,e⟩ | e <;> cases e
 |_=>simp[bF] at h
theorem Xe{i:Nat}(h:bF P c=some (.exit (2 * i))):c=.exit i:=by
 cases c with
 |exit j=>simp only[bF,au,aP.exit.injEq] at h;rw[show j=i by omega]
 |goto j=>simp only[bF,au,aP.exit.injEq] at h;omega
 |region id ops d=>
  simp only[bF] at h;split at h
  ·cases d with
   |false=>simp at h
   |true=>simp only[if_true] at h;split at h <;> simp at h
  ·simp at h
 |seq c1 m=>simp only[bF] at h;split at h <;> simp at h
 |cond o c1 m=>simp only[bF] at h;split at h <;> simp at h
 |scope b=>simp only[bF,cu] at h;obtain ⟨p,_,k⟩:=h;rcases J_ p with ⟨l,r,_,e⟩ | e <;> rw[e] at k <;> simp at k
 |rangeFunc g q x y=>rcases ee h with ⟨_,_,_,_,_,_,_,e⟩ | e <;> cases e
 |_=>simp[bF] at h
end
section
variable{P:Program}{i so ti tb gm:Nat}{z:List D}{st:TT i->Int}{metf:TT i->List (TT i)->Option Bool}
variable{B:Nat}{lb:Array Value}{J:Nat->(Nat->Prop)->(Nat->Prop)->World->Prop}{Jx:(Nat->Prop)->(Nat->Prop)->World->Prop}{l:List (TT i)}{ly:Nat}{pv:Value}
theorem KD:∀(cs:List CC)(x:aQ cs),(vj cs x).all TC.scalar=true:=by
 intro cs;induction cs with
 |nil=>intro x;rfl
 |cons c cs ih=>intro x;simp only[vj,List.all_cons,ih,Kk];cases c <;> rfl
def CA(J:Nat->(Nat->Prop)->(Nat->Prop)->World->Prop)(Jx:(Nat->Prop)->(Nat->Prop)->World->Prop)(m:Nat):Exit->Act->World->Prop:=λe a W=>(e=.normal∨e=.ret)/\a.defers=[]/\∃F U,J m F U W∨Jx F U W
def Zo{T:Type}(st:T->Int)(met:T->Option Bool)(l:List T):Option (List T):=match Nat.ble l.length 1000000 with | true=>DI st met l | false=>none
theorem KA (dx:P.follows .mixedOrders=true) (hz:z.length=aw i) (ax:∀a,(enc i a)[so]? = some (.lit (.int .i64 (st a))))
  (X:∀x y:Int,gV P .lss ti (.tmp 7) (.tmp 6) (.int .i64 x) (.int .i64 y)=some (.bool (decide (x<y))))
  (a0:∀x:Int,gV P .eql ti (.tmp 12) (.const (.int .i64 1)) (.int .i64 x) (.int .i64 1)=some (.bool (x == 1)))
  (Z:∀x:Int,gV P .add ti (.tmp 7) (.const (.int .i64 1)) (.int .i64 x) (.int .i64 1)=some (.int .i64 (i64.wrap (x+1)))) (aa:∀b:Bool,fq P (Op.unary .not (.bool b))=some (.bool (!b)))
  (hm:bH P gm ⟨[.st i,.c (.sl i)],[.c .bool],fun a=>metf a.1 a.2.1⟩)
  (R:∀k,wO B (J k)) (a6:wO B Jx) (ck:l.length≤1000000) {r:List (TT i)} (ab:∀k F U W,J k F U W→ZN F W [[.cB false (l.map (enc i))]] lb) (a7:lb[0]? = some pv)
  (K:∀k ds F U W vs,(r.map fun a=>[ST (enc i a)])[k]? = some ds→J k F U W→Vals F W ds vs →
   YieldAt Fence.wide 0 P ly vs W fun e W'=>∃F' U',Kept F U W F' U' W'∧((e=.returned (.bool true)∧J (k+1) F' U' W')∨(e=.returned (.bool false)∧Jx F' U' W')))
  {cb:Code} (a8:bF P cb=some (ableL (aw i) so ti tb gm z)):∀(m k it:Nat) (q:List (TT i)) (F U:Nat→Prop) (W:World) (g:Act),k+m=l.length→DI st (fun x=>metf x l) (l.drop k)=some q→r.drop it=q→it≤r.length→J it F U W →
   eI 26 [] (fun _=>none) F W (nK i l (.func (.yield ly) #[] #[]) pv k) g.tmps→g.defers=[]→Code.roundsIn Fence.wide 0 P cb (Exit.inBlock 0 (CA J Jx r.length)) (m+1) g W:=by
 obtain ⟨c1,r1,rfl,h1,a9⟩:=vA a8
 obtain ⟨c2,r2,rfl,h2,bb⟩:=vA a9
 obtain ⟨c3,c4,rfl,h3,h4⟩:=vA bb
 obtain ⟨x8,cp,cv,rfl,bc,bd,be⟩:=LY h2
 obtain ⟨j2,c0,rfl,c5,bh⟩:=Hc h3
 obtain ⟨d2,r3,rfl,bi,bk⟩:=vA bh
 obtain ⟨d3,d4,rfl,bl,bt⟩:=vA bk
 obtain ⟨c6,c7,c8,rfl,ad,bu,bv⟩:=LY bt
 have:=KK bd
 subst this
 have:=Xe (i:=0) be
 subst this
 have:=ZW bu
 subst this
 have:=KK bv
 subst this
 have tm:∀(x:Operand) (t:Nat),bS x=some (.t t)→x=.tmp t:=fun x t hx=>by
  cases x <;> simp [bS] at hx
  rw [hx]
 have:=tm _ _ bc
 subst this
 have:=tm _ _ ad
 subst this
 have ev:∀{al:AL} {σ:ar} {M:Nat→Option Nat} {F:Nat→Prop} {W:World} {a:Act} {t:Nat} {b:Bool},eI 26 σ M F W al a.tmps→lk t al=some (Abs.B b)→a.eval (.tmp t)=.bool b:=fun {al σ M F W a t b} A h=>by
  obtain ⟨v,g1,g2⟩:=A.2 t _ h
  have:=g2.bZ
  subst this
  simp [Act.eval,g1]
 have O:nP P (fun _=>CN []):=fun _=>nN fun p hp=>by grind
 intro m
 induction m with
 | zero =>
  intro k it q F U W g hk s S NM G A bw
  rw [roundsIn_succ]
  refine wpIn_seq (ni h1 fun ops hs u o=>?_)
  show wpOpsIn Fence.wide 0 P ops _ (List.range' 0 (WB ti).length++[]) g W
  refine d_ O o Ug (fun j ao G=>by simp_all) ?_ ((R _).rel _ _ _ G) A
  refine cd.op (dN (v:=.bool (decide ((k:Int)<l.length))) rfl rfl rfl rfl (X _ _) rfl) iy rfl (cd.nil ?_)
  intro a1 W1 M1 F1 b0 R1 A1 E1
  obtain ⟨j1,_⟩:=(R it).step G (fun b c h=>by simp at h) E1 R1
  refine ⟨wpIn_seq (wpIn_cond_false (by rw [ev A1 rfl]; simp_all) (wpIn_exit ?_)),by simp⟩
  have b1:q=[]:=by
   have:l.drop k=[]:=yBo (by omega)
   rw [this] at s
   simpa [DI] using s.symm
  subst b1
  have af:it=r.length:=by
   have:=Ja List.length S
   grind
  show Exit.inBlock 0 (CA J Jx r.length) (.exit 0) a1 W1
  simp only [Exit.inBlock,if_true]
  exact ⟨.inl rfl,by simp_all,_,_,.inl (by rw [←af]; exact j1)⟩
 | succ m ih =>
  intro k it q F U W g hk s S NM G A bw
  have b2:k<l.length:=by omega
  have b3:l.drop k=l[k]::l.drop (k+1):=yBF b2
  rw [b3] at s
  generalize ha:l[k]=a at s
  rw [roundsIn_succ]
  refine wpIn_seq (ni h1 fun ops hs u o=>?_)
  show wpOpsIn Fence.wide 0 P ops _ (List.range' 0 (WB ti).length++[]) g W
  refine d_ O o Ug (fun j ao G=>by simp_all) ?_ ((R _).rel _ _ _ G) A
  refine cd.op (dN (v:=.bool (decide ((k:Int)<l.length))) rfl rfl rfl rfl (X _ _) rfl) iy rfl (cd.nil ?_)
  intro a1 W1 M1 F1 b0 R1 A1 E1
  obtain ⟨j1,o1⟩:=(R it).step G (fun b c h=>by simp at h) E1 R1
  refine ⟨wpIn_seq (wpIn_cond_true (by rw [ev A1 rfl]; simp_all) (wpIn_skip ?_)),by simp⟩
  refine wpIn_seq (wpIn_block (wpIn_seq (ni bi fun ops hs u o=>?_)))
  show wpOpsIn Fence.wide 0 P ops _ (List.range' 0 (able2 (aw i) z).length++[]) a1 W1
  refine d_ O o Ug (fun j ao G=>by simp_all) ?_ R1 A1
  have b4:aB l (k:Int)=some a:=by
   unfold aB
   simp_all
  have E:((enc i a).map D.c).length=aw i:=by rw [xw,rT]
  have ak:uX (some (aw i)) ((enc i a).map D.c) 0=some (ST (enc i a)):=zl E
  have b5:(ST (enc i a)).cells? = some ((enc i a).map D.c):=by
   obtain ⟨h1,_⟩:=pZ (v:=.agg (exp i a)) (xs:=exp i a) (by grind [eV,exp,KD]) (de.ER (.st i) a)
   rw [vp] at h1
   exact h1
  have cm:put z 0 ((enc i a).map D.c)=(enc i a).map D.c:=by
   grind [put]
  refine cd.op (XM (l:=l) (f:=enc i) (k:=(k:Int)) rfl rfl b4 (rT i a)) iy rfl (cd.op (EX rfl ak) iy rfl (cd.op (MY (d1:=.ptr 0 0 (aw i)) (by simp_all) rfl) iy rfl (cd.eff (El (cs:=z) (xs:=(enc i a).map D.c) rfl (PE rfl hz) rfl b5 ⟨E,by omega⟩ (show _=[Ob.cells ((enc i a).map D.c)] by simp_all)) iy rfl (cd.nil ?_))))
  intro a2 W2 M2 F2 co R2 A2 E2
  obtain ⟨b6,o2⟩:=(R it).step j1 o1 E2 R2
  refine ⟨wpIn_seq (able_r3 (k:=(k:Int)) (st:=st) (metf:=metf) (items:=r.map fun a=>[ST (enc i a)]) dx ax a0 aa hm R a6 ab a7 K bl R2 (A2.lks fun t d ht=>?_) (by simp_all) b6 o2 (fun L=>?_) fun b b7 c9=>?_),by simp⟩
  ·have:=nA ht
   simp only [nK,gn,KE,KR,aT] at this
   rcases this with ⟨rfl,rfl⟩ | ⟨rfl,rfl⟩ | ⟨rfl,rfl⟩ | ⟨rfl,rfl⟩ | ⟨rfl,rfl⟩ | ⟨rfl,rfl⟩ <;> rfl
  ·simp only [DI,L,yBV,if_true] at s
   cases b8:metf a l with
   | none=>simp_all
   | some b =>
    refine ⟨b,rfl,fun hb=>?_⟩
    rw [b8] at s
    simp only [Option.bind_some] at s
    obtain ⟨T,an,e⟩:=cC.1 s
    simp only [hb,if_true,au] at e
    have:r[it]? = some a:=by
     have:=Ja (fun l:List (TT i)=>l[0]?) S
     grind
    simp_all
  ·
   intro F' U' W' A' b' b9 AA cg
   rcases cg with ⟨rfl,N⟩ | ⟨rfl,N⟩
   ·
    refine wpIn_cond_false (ev AA rfl) (wpIn_skip ?_)
    show Exit.inBlock j2 (Exit.then (c4.wpIn Fence.wide 0 P _) _) .normal A' W'
    show c4.wpIn Fence.wide 0 P _ A' W'
    refine ni h4 fun ops hs u o=>?_
    show wpOpsIn Fence.wide 0 P ops _ (List.range' 0 (able4 ti).length++[]) A' W'
    refine d_ O o Ug (fun j ao G=>by rw [Ry]; exact u j ao G) ?_ ((R _).rel _ _ _ N) AA
    have da:i64.wrap ((k:Int)+1)=(k:Int)+1:=by
     rw [IntKind.wrap_i64]; omega
    refine cd.op (dN (v:=.int .i64 (i64.wrap ((k:Int)+1))) rfl rfl rfl rfl (Z _) rfl) iy rfl (cd.op (zV rfl) iy rfl (cd.nil ?_))
    intro a5 W5 M5 F5 db R5 A5 E5
    obtain ⟨j5,_⟩:=(R _).step N (fun b c h=>by simp at h) E5 R5
    have A6:eI 26 [] (fun _=>none) F5 W5 (nK i l (.func (.yield ly) #[] #[]) pv ((k+1:Nat):Int)) a5.tmps:=by
     refine A5.data fun t d ht=>?_
     have:=nA ht
     simp only [nK,gn,KE,KR,aT] at this
     rcases this with ⟨rfl,rfl⟩ | ⟨rfl,rfl⟩ | ⟨rfl,rfl⟩ | ⟨rfl,rfl⟩ | ⟨rfl,rfl⟩
     ·refine ⟨?_,rfl⟩
      show some (D.c (C.lit (.int .i64 (i64.wrap ((k:Int)+1)))))=_
      grind
     all_goals exact ⟨rfl,rfl⟩
    refine ⟨?_,by simp⟩
    show Code.roundsIn Fence.wide 0 P _ _ (m+1) a5 W5
    have ch:∃T,DI st (fun x=>metf x l) (l.drop (k+1))=some T∧r.drop (if b=true then it+1 else it)=T∧(if b=true then it+1 else it)≤r.length:=by
     by_cases L:st a=1
     ·simp only [DI,L,yBV,if_true] at s
      rw [b7 L] at s
      simp only [Option.bind_some] at s
      obtain ⟨T,an,e⟩:=cC.1 s
      refine ⟨T,an,?_⟩
      cases b with
      | true =>
       simp only [if_true,au] at e ⊢
       have h0:r.drop it=a::T:=by grind
       have av:it<r.length:=by
        grind
       refine ⟨?_,av⟩
       have:=Ja (List.drop 1) h0
       simpa using this
      | false =>
       grind
     ·have hf:(st a == 1)=false:=by grind
      simp only [DI,hf,bX,cn] at s
      grind
    grind
   ·
    refine wpIn_cond_true (ev AA rfl) (wpIn_ret ?_)
    show CA J Jx r.length .ret A' W'
    exact ⟨.inr rfl,b9,_,_,.inr N⟩
theorem able_ok{g:Nat}{fn:Func}{met:TT i->List (TT i)->Option Bool}(dx:P.follows .mixedOrders=true)(hg:P.funcs[g]? = some fn)(s:gM P fn true=some (ableA (aw i) so ti tb gm z))(hm:bH P gm ⟨[.st i,.c (.sl i)],[.c .bool],λa=>met a.1 a.2.1⟩)(hz:z.length=aw i)(aa:∀a,(enc i a)[so]? = some (.lit (.int .i64 (st a))))
  (ab:∀x y:Int,gV P .lss ti (.tmp 7) (.tmp 6) (.int .i64 x) (.int .i64 y)=some (.bool (decide (x<y))))
  (ad:∀x:Int,gV P .eql ti (.tmp 12) (.const (.int .i64 1)) (.int .i64 x) (.int .i64 1)=some (.bool (x == 1)))
  (A:∀x:Int,gV P .add ti (.tmp 7) (.const (.int .i64 1)) (.int .i64 x) (.int .i64 1)=some (.int .i64 (i64.wrap (x+1)))) (E:∀b:Bool,fq P (Op.unary .not (.bool b))=some (.bool (!b))) :
  WT P g ⟨[.c (.sl i)],[.c (.sl i)],λa=>Zo st (λx=>met x a.1) a.1⟩:=by
 intro l r hr;change Zo st (λx=>met x l) l=some r at hr;unfold Zo at hr;split at hr
 rotate_left
 ·grind
 rename_i k;have k:=Cq k;unfold gM at s;split at s
 rotate_left
 ·grind
 rename_i c hb;split at s
 rotate_left
 ·grind
 rename_i ac rs af ak;simp only[ableA,au,kS.mk.injEq] at s;obtain ⟨_,bd,rfl,rfl,_⟩:=s;intro ly B lb J Jx W F U X G o m h0;obtain ⟨K,an⟩:=o 0 F U W h0;have K:lb.size=1:=K;obtain ⟨pv,L⟩:∃pv,lb[0]? = some pv:=⟨_,rG (by omega)⟩;obtain ⟨c',av,be,T,hh,hl,hx⟩:=an 0 _ pv rfl L;refine callsIn_wide.1 (callsIn_of_wp_marks (F:=Fence.wide) (n:=0) hg hb trivial ?_ rfl);refine wpIn_mono (Q:=CA J Jx r.length) ?_ λe a W' N=>?_
 rotate_left
 ·obtain ⟨he,hd,F',Z,ax⟩:=N;have R':Rel [] (λ_=>none) F' W':=ax.elim (λh=>(X _).rel _ _ _ h) λh=>G.rel _ _ _ h;have E':dr [] (λ_=>none) F' W' (List.replicate a.tmps.size D.any) a.tmps:=⟨by simp,λi d v g1 g2=>by
   have:d=.any:=by grind
   subst this;exact .any v⟩
  obtain ⟨v,hv,_⟩:=jm (P:=P) (a:=a) R' E' ak (ds:=[]) rfl;have fin:LeavesInM Fence.wide 0 P fn a.tmps (λe W'=>(∃v,e=.returned v)/\∃F' Z,J (r.map λa=>[ST (enc i a)]).length F' Z W'∨Jx F' Z W') a.defers .returning W':=by rw[hd];exact ⟨v,hv,⟨v,rfl⟩,F',Z,by simp_all⟩
  rcases he with rfl | rfl
  ·exact fin
  ·exact fin
 obtain ⟨c0,bh,rfl,a0,R⟩:=vA af;obtain ⟨j0,cl,rfl,bi,a2⟩:=Hc R;obtain ⟨cb,rfl,a5⟩:=YF a2;have:j0=0:=by omega
 subst this;have O:nP P (λ_=>CN []):=λ_=>nN λp hp=>by grind
 have R0:=(X 0).rel _ _ _ h0;have A0:eI 26 [] (λ_=>none) F W [(0,.c (.lit (.func (.yield ly) #[] #[]))),(1,.c (.lit pv))] ((#[Value.func (.yield ly) #[] #[]]++lb)++Array.replicate (fn.ntmps-(#[Value.func (.yield ly) #[] #[]]++lb).size) undef):=by
  refine ⟨by simp_all,λt d ht=>?_⟩;have:=nA ht;simp only[gn,KE,KR,aT] at this;rcases this with ⟨rfl,rfl⟩ | ⟨rfl,rfl⟩
  ·refine ⟨_,?_,.c (.lit _)⟩
   simp_all
  ·refine ⟨pv,?_,.c (.lit _)⟩
   simp_all
 refine wpIn_seq (ni a0 λops hs q a6=>?_);obtain ⟨o0,a7,S⟩:=q 0 _ rfl;obtain ⟨v1,a8,a9⟩:=A0.2 1 _ rfl;have:=a9.bZ;subst this;subst av;show wpOpsIn Fence.wide 0 P ops _ (0::(List.range' 1 2++[])) _ W;refine Hy a7 S R0.gl A0.c_.1 rfl a8 hh (by omega) (λu hu=>hx 0 _ u rfl hu) λv hv=>?_;have A1:=eI.put (a:={ tmps:=(#[Value.func (.yield ly) #[] #[]]++lb)++Array.replicate (fn.ntmps-(#[Value.func (.yield ly) #[] #[]]++lb).size) undef,defers:=[] }) A0 (t:=5) (d:=.c (.cB false (l.map (enc i)))) (by omega) (.c hv);refine d_ (os:=[⟨some 6,.len (.t 5),none⟩,⟨some 7,.Ai (.k (.c (.lit (.int .i64 0)))),none⟩]) O a6 Ug (Bb q λj hj=>?_) ?_ R0 A1
 ·have:j=0∨j=1:=by simp at hj;omega
  rcases this with rfl | rfl <;> rfl
 refine cd.op (WC (l:=l) (f:=enc i) rfl) iy rfl (cd.op (zV rfl) iy rfl (cd.nil ?_));intro a1 W1 M1 F1 bb R1 bc E1;obtain ⟨j1,_⟩:=(X 0).step h0 (λb c h=>by simp at h) E1 R1;refine ⟨?_,by simp⟩;show (Code.block 0 (Code.loop cb)).wpIn Fence.wide 0 P _ a1 W1;refine wpIn_block (wpIn_loop_rounds (l.length+1) (KA (metf:=met) (hm:=hm) dx hz aa ab ad A E X G k o L m a5 l.length 0 0 r F1 _ W1 a1 (by omega) (by simp_all) rfl (NA _) j1 (bc.data λt d ht=>?_) (by rw[bb];rfl)));have:=nA ht;simp only[nK,gn,KE,KR,aT] at this;rcases this with ⟨rfl,rfl⟩ | ⟨rfl,rfl⟩ | ⟨rfl,rfl⟩ | ⟨rfl,rfl⟩ | ⟨rfl,rfl⟩ <;> exact ⟨rfl,rfl⟩
end
end
end Go.Abs
end
section
set_option linter.unusedVariables false
set_option linter.unusedSimpArgs false
namespace Go.Abs
open Go.Proofs Go.Shelf Go.RowKit Go.Lib
variable[Gl]{P:Program}{ρ:Ren}
theorem GA{w:World}{o:Obj}{r:Nat}(h:r<w.heap.size):(w.alloc o).heap[r]? = w.heap[r]?:=by
 show (w.heap.push o)[r]? = w.heap[r]?
 grind
theorem Md{w:World}{b j:Nat}{arr:Array Value}{T:TypeId}(h:w.heap[b]? = some (.cells arr T (0,0))):w.cell? ⟨b,j,none⟩=arr[j]?:=by simp[World.cell?,h]
theorem RD{w:World}{b j:Nat}{arr:Array Value}{T:TypeId}(h:w.heap[b]? = some (.cells arr T (0,0))):w.frozen? ⟨b,j,none⟩=false:=by simp[World.frozen?,h]
theorem Qw{w:World}{b:Nat}{arr:Array Value}{T:TypeId}(h:w.heap[b]? = some (.cells arr T (0,0))):w.shape? b=some (T,arr.size):=by simp[World.shape?,h]
theorem oF(w:World)(t y ty g:TypeId)(b o d k m so e p es:Nat)(arr q:Array Value)(T A:TypeId)(cs:List Value)
  (E:P.underlying t=some (.slice g)) (hs:∀w,(Go.sizeOf g).run P w=.ok es w) (G:cs.length=Nat.min e d * es) (K:w.heap[b]? = some (.cells arr T (0,0))) (r:w.heap[m]? = some (.cells q A (0,0)))
  (u:∀j v,cs[j]? = some v->q[so+j]? = some v) (x:o+cs.length<=arr.size) (L:∀v∈cs,v.oneCell'=true) :
  (Builtin.copy_ #[t,y] ty #[.slice (some ⟨b,o,none⟩) d k,.slice (some ⟨m,so,none⟩) e p]).run P w=.ok (goInt (Nat.min e d)) (cy w b (.cells (cG arr o cs) T (0,0))):=by
 have x:=run_loadCells_list (P:=P) w ⟨m,so,none⟩ cs (λj v h=>by rw[show (⟨m,so,none⟩:Addr).add j=⟨m,so+j,none⟩ from by simp[Addr.add],Md r];simp_all);have s:=zdY P T b cs o w arr K L (by omega);simp[Builtin.copy_,run_underlying E,Builtin.lenOf,Builtin.firstCells,hs,<-G,x,s]
structure Ku (P:Program) (ρ:Ren) (es by':Nat) (nm:String) (z:Value):Prop where
 mixed:P.follows .mixedOrders=true
 f22:P.funcs[ρ.f 22]? = some { Body2.n22 ρ with name:=nm }
 ov:∀args w,(callFunc (ρ.f 29) args).run P w=((Extern.SlicesOverlaps.overlaps #[ρ.t 24,ρ.t 24] #[ρ.t 4] args).run P w).andThen λv w'=>.ok (.value v) w'
 t0:P.underlying (ρ.t 0)=some (TypeDesc.tuple #[])
 t3:P.underlying (ρ.t 3)=some (TypeDesc.int IntKind.i64)
 t4:P.underlying (ρ.t 4)=some (TypeDesc.bool)
 a3:∀w,(isAgg (ρ.t 3)).run P w=.ok false w
 z3:∀w,(Go.sizeOf (ρ.t 3)).run P w=.ok 1 w
 a4:∀w,(isAgg (ρ.t 4)).run P w=.ok false w
 z4:∀w,(Go.sizeOf (ρ.t 4)).run P w=.ok 1 w
 z9:∀w,(Go.sizeOf (ρ.t 9)).run P w=.ok es w
 v9:∀w,(zeroValue (ρ.t 9)).run P w=.ok z w
 t24:P.underlying (ρ.t 24)=some (TypeDesc.slice (ρ.t 9))
 a24:∀w,(isAgg (ρ.t 24)).run P w=.ok false w
 z24:∀w,(Go.sizeOf (ρ.t 24)).run P w=.ok 1 w
 v24:∀w,(zeroValue (ρ.t 24)).run P w=.ok (Value.slice none 0 0) w
 i9:(P.info? (ρ.t 9)).map (λi=>(i.zero,i.size,i.bytes))=some (some z,es,by')
set_option maxHeartbeats 4000000 in
set_option maxRecDepth 100000 in
theorem UL {es Z:Nat} {nm:String} {z:Value} (L:Ku P ρ es Z nm z) (b n c i k m s:Nat) (arr d:Array Value) (T S:TypeId) (w:World) (hi:i<n) (hm:0<m) (aa:0<es) (p:n+m≤c) (a9:n+m≤2000000)
  (U:w.heap[b]? = some (.cells arr T (0,0))) (X:w.heap[k]? = some (.cells d S (0,0))) (t:k≠b) (ab:c * es≤arr.size) (u:m * es≤d.size)
  (h1:∀j v,j<n * es→arr[j]? = some v→v.oneCell'=true) (x:∀j v,j<m * es→d[j]? = some v→v.oneCell'=true) :
  Calls P (ρ.f 22) #[.slice (some ⟨b,0,none⟩) n c,.int .i64 i,.slice (some ⟨k,0,none⟩) m s] w fun e w'=>
   e=.returned (.slice (some ⟨b,0,none⟩) (n+m) c)∧w'=cy (cy w.drew b (.cells (cG arr ((i+m) * es) ((arr.toList.take (n * es)).drop (i * es))) T (0,0))) b (.cells (cG (cG arr ((i+m) * es) ((arr.toList.take (n * es)).drop (i * es))) (i * es) (d.toList.take (m * es))) T (0,0)):=by
 have t0:=L.t0; have t3:=L.t3; have t4:=L.t4; have bb:=L.t24; have a3:=L.a3; have z3:=L.z3; have a4:=L.a4; have z4:=L.z4; have z9:=L.z9; have v9:=L.v9; have bc:=L.a24; have bd:=L.z24; have be:=L.v24
 have u0:=run_underlying L.t0; have u3:=run_underlying L.t3; have u4:=run_underlying L.t4; have bh:=run_underlying L.t24
 have ad:=L.mixed
 have bi:¬((m:Int)=0):=by omega
 have bk:¬((i:Int)=(n:Int)):=by omega
 have bl:i64.wrap ((i:Int)+(m:Int))=(i:Int)+(m:Int):=by rw [IntKind.wrap_i64]; omega
 have bt:(0:Int)≤(i:Int)+(m:Int):=by omega
 have af:i≤n:=by omega
 have bu:((i:Int)+(m:Int)).toNat=i+m:=by omega
 have bv:¬(c=i+m):=by omega
 have bw:(i:Int)≤(n:Int)+(m:Int):=by omega
 have b0:¬(c=i):=by omega
 have ak:n * es≤c * es:=FU _ (by omega)
 have an:(n+m) * es≤c * es:=FU _ p
 have av:(n+m) * es=n * es+m * es:=KH ..
 have ax:(i+m) * es=i * es+m * es:=KH ..
 have a0:i * es≤n * es:=FU _ af
 have a1:(n-i) * es=n * es-i * es:=Nat.sub_mul ..
 have a2:0<m * es:=Nat.mul_pos hm aa
 have a5:∀lb cb,(callFunc (ρ.f 29) #[.slice (some ⟨k,0,none⟩) m s,.slice (some ⟨b,(i+m) * es,none⟩) lb cb]).run P w=.ok (.value (.bool false)) w:=fun lb cb=>by
  rw [L.ov,Lib.run_overlaps_apart w (ρ.t 24) (ρ.t 4) (ρ.t 9) L.t24 es L.z9 ⟨k,0,none⟩ ⟨b,(i+m) * es,none⟩ m s lb cb t S T d.size arr.size (Qw X) (Qw U) (by omega) (RD X) (RD X)]
  rfl
 obtain ⟨h,y⟩:∃h,h=(arr.toList.take (n * es)).drop (i * es):=⟨_,rfl⟩
 obtain ⟨A,E⟩:∃A,A=d.toList.take (m * es):=⟨_,rfl⟩
 have a6:h.length=(n-i) * es:=by grind
 have a7:A.length=m * es:=by simp_all
 rw [←y,←E]
 have o:∀ty q sc,(Builtin.copy_ #[(ρ.t 24),(ρ.t 24)] ty #[.slice (some ⟨b,(i+m) * es,none⟩) (n+m-(i+m)) q,.slice (some ⟨b,i * es,none⟩) (n+m-i) sc]).run P w.drew=.ok (goInt (Nat.min (n+m-i) (n+m-(i+m)))) (cy w.drew b (.cells (cG arr ((i+m) * es) h) T (0,0))):=fun ty q sc=>
  oF w.drew _ _ ty (ρ.t 9) b ((i+m) * es) (n+m-(i+m)) q b (i * es) (n+m-i) sc es arr arr T T h L.t24 L.z9 (by grind) U U
   (fun j v G=>by
    grind) (by omega)
   (fun v g=>by
    rw [y] at g
    obtain ⟨j,G,e⟩:=km (yBi g)
    simp only [BY,Array.length_toList] at G
    exact h1 j v (by omega) (by grind))
 obtain ⟨K,r⟩:∃K,K=cy w.drew b (.cells (cG arr ((i+m) * es) h) T (0,0)):=⟨_,rfl⟩
 have a8:b<w.heap.size:=(BO.1 U).1
 have N:K.heap[b]? = some (.cells (cG arr ((i+m) * es) h) T (0,0)):=by rw [r]; exact eQ a8
 have O:K.heap[k]? = some (.cells d S (0,0)):=by rw [r,fN t]; exact X
 have R:∀(W:World),W.heap=K.heap→∀ty q,(Builtin.copy_ #[(ρ.t 24),(ρ.t 24)] ty #[.slice (some ⟨b,i * es,none⟩) (n+m-i) q,.slice (some ⟨k,0,none⟩) m s]).run P W=.ok (goInt (Nat.min m (n+m-i))) (cy W b (.cells (cG (cG arr ((i+m) * es) h) (i * es) A) T (0,0))):=fun W hW ty q=>
  oF W _ _ ty (ρ.t 9) b (i * es) (n+m-i) q k 0 m s es (cG arr ((i+m) * es) h) d T S A L.t24 L.z9 (by grind) (by simp_all) (by simp_all)
   (fun j v G=>by
    grind) (by grind [Un])
   (fun v g=>by
    rw [E] at g
    obtain ⟨j,G,e⟩:=km g
    simp only [BY,Array.length_toList] at G
    exact x j v (by omega) (by grind))
 rw [←r] at o ⊢
 clear ak an av ax a0 a1 a2 N O ab u h1 x a6 a7
 go_enter L.f22,Body2.n22_ntmps ρ
 go_wp2_with (simp only [a5])
 go_region_law_o (refine step_copy_runI rfl _ _ (ρ.t 24) (ρ.t 24) rfl _ _ (by simp [Act.eval,Act.put]) (by simp [Act.eval,Act.put]) (o _ _ _) ?_)
 go_wp2_with (at_builtin; refine wpList_copy_runI _ rfl _ _ (ρ.t 24) (ρ.t 24) rfl _ _ rfl rfl (R _ rfl _ _) ?_)
 go_ret
 simp_all
set_option maxHeartbeats 4000000 in
set_option maxRecDepth 100000 in
theorem Vf {es y:Nat} {nm:String} {z:Value} (L:Ku P ρ es y nm z) (b n c i x m vc:Nat) (arr g:Array Value) (T Tv:TypeId) (w:World) (hi:i<n) (hm:0<m) (bu:0<es) (bv:n≤c) (t:c<n+m) (p:(n+m) * y≤140737488355328) (bw:n+m≤2000000) (b0:z.cells.size=es)
  (hh:w.heap[b]? = some (.cells arr T (0,0))) (hv:w.heap[x]? = some (.cells g Tv (0,0))) (af:c * es≤arr.size) (A:m * es≤g.size)
  (h1:∀j v,j<n * es→arr[j]? = some v→v.oneCell'=true) (ak:∀j v,j<m * es→g[j]? = some v→v.oneCell'=true) :
  Calls P (ρ.f 22) #[.slice (some ⟨b,0,none⟩) n c,.int .i64 i,.slice (some ⟨x,0,none⟩) m vc] w fun e w'=>∃G d,n+m≤G∧d.size=G * es∧(∀j,j<i * es→d[j]? = arr[j]?) ∧
   e=.returned (.slice (some ⟨w.heap.size,0,none⟩) (n+m) G)∧w'=cy (cy (w.alloc (.cells d (ρ.t 9))).drew w.heap.size (.cells (cG d (i * es) (g.toList.take (m * es))) (ρ.t 9) (0,0))).drew w.heap.size (.cells (cG (cG d (i * es) (g.toList.take (m * es))) ((i+m) * es) ((arr.toList.take (n * es)).drop (i * es))) (ρ.t 9) (0,0)):=by
 have t0:=L.t0; have t3:=L.t3; have t4:=L.t4; have b1:=L.t24; have a3:=L.a3; have z3:=L.z3; have a4:=L.a4; have z4:=L.z4; have z9:=L.z9; have v9:=L.v9; have b2:=L.a24; have b3:=L.z24; have b4:=L.v24
 have u0:=run_underlying L.t0; have u3:=run_underlying L.t3; have u4:=run_underlying L.t4; have b5:=run_underlying L.t24
 have an:=L.mixed
 obtain ⟨i0,av,ax,E,K⟩:=info_parts L.i9
 have b6:¬((m:Int)=0):=by omega
 have b7:¬((i:Int)=(n:Int)):=by omega
 have b8:(c:Int)<(n:Int)+(m:Int):=by omega
 have b9:i64.wrap ((i:Int)+(m:Int))=(i:Int)+(m:Int):=by rw [IntKind.wrap_i64]; omega
 have cg:(0:Int)≤(i:Int)+(m:Int):=by omega
 have a0:i≤n:=by omega
 have ch:((i:Int)+(m:Int)).toNat=i+m:=by omega
 have ck:(i:Int)≤(n:Int):=by omega
 have a1:(n:Int)+(m:Int)-(i:Int)=((n+m-i:Nat):Int):=by omega
 have N:i+(n+m-i)=n+m:=by omega
 have a2:n * es≤c * es:=FU _ (by omega)
 have a5:(n+m) * es=n * es+m * es:=KH ..
 have a6:(i+m) * es=i * es+m * es:=KH ..
 have a7:i * es≤n * es:=FU _ a0
 have a8:(n-i) * es=n * es-i * es:=Nat.sub_mul ..
 have a9:(n+m-i) * es=(n+m) * es-i * es:=Nat.sub_mul ..
 obtain ⟨G,hG⟩:∃G,G=grownCap w (n+m) c (ρ.t 9):=⟨_,rfl⟩
 have O:n+m≤G:=by grind [Go.grownCap_ge]
 have bb:(n+m) * es≤G * es:=FU _ O
 have R:(G-(n+m)) * es=G * es-(n+m) * es:=Nat.sub_mul ..
 have q:(Builtin.firstCells i0.size i (.slice (some ⟨b,0,none⟩) i c)).run P w.drew=.ok (arr.toList.take (i * es)).toArray w.drew:=by
  rw [E]
  have hl:=run_loadCells_list (P:=P) w.drew ⟨b,0,none⟩ (arr.toList.take (i * es)) (fun j v h=>by
   grind [Go.Addr.add_lit,Md,Go.World.drew])
  rw [show (arr.toList.take (i * es)).length=i * es from by grind] at hl
  exact hl
 obtain ⟨d,S⟩:∃d:Array Value,d=(arr.toList.take (i * es)).toArray++Builtin.zeroCells z.cells (n+m-i)++Builtin.zeroCells z.cells (G-(n+m)):=⟨_,rfl⟩
 have bc:d.size=G * es:=by
  grind [ic]
 have bd:∀j,j<i * es→d[j]? = arr[j]?:=fun j hj=>by
  grind
 have be:∀ty,(Builtin.append_ #[(ρ.t 24),(ρ.t 3)] ty #[.slice (some ⟨b,0,none⟩) i c,.int .i64 ((n:Int)+(m:Int)-(i:Int))]).run P w =
   .ok (.slice (some ⟨w.heap.size,0,none⟩) (n+m) G) (w.drew.alloc (.cells d (ρ.t 9))):=fun ty=>by
  have h:=Lib.run_append_grow_zeros w (ρ.t 24) (ρ.t 3) ty (ρ.t 9) i0 _ .i64 .i64 L.t24 L.t3 av ax (some ⟨b,0,none⟩) i c (arr.toList.take (i * es)) q (n+m-i) (by omega) (by omega) (by omega) (by omega)
   (by rw [K]; exact lA (FU _ (by omega)) (lA p (by omega))) (by rw [K,N]; exact growslice_fits t p)
  simp_all
 obtain ⟨U,X⟩:∃U,U=(arr.toList.take (n * es)).drop (i * es):=⟨_,rfl⟩
 obtain ⟨k,Z⟩:∃k,k=g.toList.take (m * es):=⟨_,rfl⟩
 have bh:U.length=(n-i) * es:=by grind
 have bi:k.length=m * es:=by simp_all
 have aa:b<w.heap.size:=(BO.1 hh).1
 have ab:x<w.heap.size:=(BO.1 hv).1
 obtain ⟨r,o⟩:∃r,r=(w.alloc (.cells d (ρ.t 9))).drew:=⟨_,rfl⟩
 have q1:r.heap[w.heap.size]? = some (.cells d (ρ.t 9) (0,0)):=by rw [o]; exact heap_alloc_new w _
 have q2:r.heap[x]? = some (.cells g Tv (0,0)):=by rw [o]; exact (GA ab).trans hv
 have q3:r.heap[b]? = some (.cells arr T (0,0)):=by rw [o]; exact (GA aa).trans hh
 have q4:w.heap.size<r.heap.size:=(BO.1 q1).1
 have ad:∀(W:World),W.heap=r.heap→∀ty u,(Builtin.copy_ #[(ρ.t 24),(ρ.t 24)] ty #[.slice (some ⟨w.heap.size,i * es,none⟩) (n+m-i) u,.slice (some ⟨x,0,none⟩) m vc]).run P W=.ok (goInt (Nat.min m (n+m-i))) (cy W w.heap.size (.cells (cG d (i * es) k) (ρ.t 9) (0,0))):=fun W hW ty u=>
  oF W _ _ ty (ρ.t 9) w.heap.size (i * es) (n+m-i) u x 0 m vc es d g (ρ.t 9) Tv k L.t24 L.z9 (by grind) (by simp_all) (by simp_all)
   (fun j v hj=>by
    grind) (by omega)
   (fun v bk=>by
    grind [List.getElem_of_mem])
 have s:∀(W:World),W.heap=(cy r w.heap.size (.cells (cG d (i * es) k) (ρ.t 9) (0,0))).heap→∀ty u sc,(Builtin.copy_ #[(ρ.t 24),(ρ.t 24)] ty #[.slice (some ⟨w.heap.size,(i+m) * es,none⟩) (n+m-(i+m)) u,.slice (some ⟨b,i * es,none⟩) (n-i) sc]).run P W=.ok (goInt (Nat.min (n-i) (n+m-(i+m)))) (cy W w.heap.size (.cells (cG (cG d (i * es) k) ((i+m) * es) U) (ρ.t 9) (0,0))):=fun W hW ty u sc=>
  oF W _ _ ty (ρ.t 9) w.heap.size ((i+m) * es) (n+m-(i+m)) u b (i * es) (n-i) sc es (cG d (i * es) k) arr (ρ.t 9) T U L.t24 L.z9 (by grind) (by grind [eQ]) (by grind [fN])
   (fun j v hj=>by
    grind) (by grind [Un])
   (fun v bk=>by
    grind [List.getElem_of_mem])
 have bl:G≤9223372036854775807:=by
  grind [Go.grownCap_le_maxLen,Go.maxLen]
 have cm:¬(G=i):=by omega
 have bt:¬(G=i+m):=by omega
 have co:¬(c=i):=by omega
 rw [←X,←Z]
 clear a2 a5 a6 a7 a8 a9 bb R q1 q2 q3 q4 af A h1 ak bh bi a1 N q S hG aa ab X Z
 subst o
 have hF:((cy (w.alloc (.cells d (ρ.t 9))).drew w.heap.size (.cells (cG d (i * es) k) (ρ.t 9) (0,0))).drew).heap=(cy (w.alloc (.cells d (ρ.t 9))).drew w.heap.size (.cells (cG d (i * es) k) (ρ.t 9) (0,0))).heap:=rfl
 go_enter L.f22,Body2.n22_ntmps ρ
 go_wp2_with (first
  | (at_builtin; refine Lib.wpList_append_run _ rfl _ _ _ _ rfl _ _ rfl rfl _ _ (be _) ?_)
  | (at_builtin; refine wpList_copy_runI _ rfl _ _ (ρ.t 24) (ρ.t 24) rfl _ _ rfl rfl (ad _ rfl _ _) ?_)
  | (at_builtin; refine wpList_copy_runI _ rfl _ _ (ρ.t 24) (ρ.t 24) rfl _ _ rfl rfl (s _ rfl _ _ _) ?_))
 go_region_law_o (refine step_copy_runI rfl _ _ (ρ.t 24) (ρ.t 24) rfl _ _ (by simp [Act.eval,Act.put]) (by simp [Act.eval,Act.put]) (s _ hF _ _ _) ?_)
 go_wp2
 go_ret
 exact ⟨G,d,O,bc,bd,rfl,rfl⟩
end Go.Abs
end
section
namespace Go.Abs
open Go.Proofs Go.Shelf
noncomputable section
section
variable[Gl]{P:Program}{ρ:Ren}{σ:ar}{M:Nat->Option Nat}{Fz:Nat->Prop}{w:World}
theorem SC{g q:Array Value}{n m k es:Nat}{arr:Array Value}{e o:List D}(hk:k<=n)(s:e.length=n * es)(p:o.length=m * es)
  (y:∀j,j<k * es->arr[j]? = g[j]?) (t:∀j,j<m * es->arr[k * es+j]? = q[j]?) (u:∀j,k * es<=j->j<n * es->arr[j+m * es]? = g[j]?)
  (Q:D->Value->Prop) (A:∀(i:Nat) d v,e[i]? = some d->g[i]? = some v->Q d v) (E:∀(i:Nat) d v,o[i]? = some d->q[i]? = some v->Q d v) :
  ∀(i:Nat) d v,(e.take (k * es)++o++e.drop (k * es))[i]? = some d->arr[i]? = some v->Q d v:=λi d v hd G=>by
 have K:k * es<=n * es:=FU _ hk;have r:(e.take (k * es)).length=k * es:=by simp_all
 by_cases h:i<k * es
 ·grind
 ·by_cases L:i<k * es+m * es
  ·rw[HI (by simp_all),NG (by omega),r] at hd;have:=t (i-k * es) (by omega)
   grind
  ·rw[NG (by simp_all),yBD] at hd;simp only[AW,r,p] at hd;have x:=(gg.1 hd).1;have:=u (k * es+(i-(k * es+m * es))) (by omega) (by omega)
   grind
theorem Pf{c:Nat}{o o':Obj}:(cy (cy w c o) c o').heap=(cy w c o').heap:=by
 simp only[cy]
 simp_all
theorem PN{o o':Obj}:(cy (w.alloc o) w.heap.size o').heap=(w.alloc o').heap:=by
 show (w.heap.push o).setIfInBounds w.heap.size o'=w.heap.push o'
 grind
end
section
variable[Gl][Y:Ty]{P:Program}{ρ:Ren}{α:Type}{f:α->List C}{es:Nat}
theorem XY(d:∀a,(f a).length=es){l v:List α}{k:Nat}(hk:k<=l.length):((l.take k++v++l.drop k).flatMap f).map D.c=((l.flatMap f).map D.c).take (k * es)++(v.flatMap f).map D.c++((l.flatMap f).map D.c).drop (k * es):=by
 have e:(l.flatMap f).map D.c=((l.take k).flatMap f).map D.c++((l.drop k).flatMap f).map D.c:=by grind [List.take_append_drop]
 grind [ed,List.length_take]
theorem Qn{ax:Nat}{nm:String}{z:Value}(L:Ku P ρ es ax nm z)(bc:z.cells.size=es)(Z:0<es)(bd:ax<=1000)(hf:∀a,(f a).length=es){l v:List α}{k:Nat}(hk:k<l.length)(hm:0<v.length)(a0:l.length+v.length<=1000000) :
  Ok P (ρ.f 22) [OS es 0 l.length,.c (.lit (.int .i64 (k:Int))),OS es 1 v.length] [OB f l,OB f v] (OS es 0 (l.take k++v++l.drop k).length) [OB f (l.take k++v++l.drop k),OB f v]:=by
 intro M Fz w vs R hs hv;have be:vs.size=3:=hs;obtain ⟨v0,v1,v2,rfl⟩:∃v0 v1 v2,vs=#[v0,v1,v2]:=by
  obtain ⟨xs⟩:=vs
  match xs,be with
  |[a,b,c],_=>simp_all
 have g0:=hv 0 _ v0 rfl rfl;have g1:=(hv 1 _ v1 rfl rfl).bZ;have g2:=hv 2 _ v2 rfl rfl;subst g1;have u:([OB f l,OB f v]:ar)[0]? = some (.cells ((l.flatMap f).map D.c)):=rfl;have a1:([OB f l,OB f v]:ar)[1]? = some (.cells ((v.flatMap f).map D.c)):=rfl;have L0:((l.flatMap f).map D.c).length=l.length * es:=by rw[xw,ed hf]
 have L1:((v.flatMap f).map D.c).length=v.length * es:=by rw[xw,ed hf]
 have nn:(l.take k++v++l.drop k).length=l.length+v.length:=by grind
 have b2:k * es<l.length * es:=yBO hk Z;have b3:(l.length+v.length) * es=l.length * es+v.length * es:=KH ..;have b4:0<v.length * es:=Nat.mul_pos hm Z;have b5:(k+v.length) * es=k * es+v.length * es:=KH ..;rcases g0.eY (PE u L0) with ⟨_,e,_⟩ | ⟨c,o,cap,m,T,hM,rfl,⟨bh,b6⟩,ho,hh,b1,_⟩
 ·omega
 rcases g2.eY (PE a1 L1) with ⟨_,e,_⟩ | ⟨cv,ov,ab,p,Tv,a2,rfl,⟨b7,b8⟩,b9,af,bi,_⟩
 ·omega
 have cg:∀x y:Nat,0<x->x<=y->y≠0:=λx y h h'=>by omega
 obtain rfl:o=0:=by omega
 obtain rfl:ov=0:=by omega
 obtain ⟨N,T',ak,_,a5⟩:=R.row hM u;rw[hh] at ak;simp only[au,Obj.cells.injEq,Nr] at ak;obtain ⟨rfl,rfl⟩:=ak;obtain ⟨bk,ch,O,_,a6⟩:=R.row a2 a1;rw[af] at O;simp only[au,Obj.cells.injEq,Nr] at O;obtain ⟨rfl,rfl⟩:=O;have bl:cv≠c:=λe=>by have:=R.inj 1 0 c (e▸a2) hM;omega
 have o1:∀j x,j<l.length * es->m[j]? = some x->x.oneCell'=true:=λj x hj hx=>by grind
 have o2:∀j x,j<v.length * es->p[j]? = some x->x.oneCell'=true:=λj x hj hx=>by grind
 have S:cap * es<=m.size:=by omega
 have t:v.length * es<=p.size:=by omega
 have hS:=λh:l.length+v.length<=cap=>UL L c l.length cap k cv v.length ab m p T Tv w hk hm Z h (by omega) hh af bl S t o1 o2;have hG:=λh:cap<l.length+v.length=>Vf L c l.length cap k cv v.length ab m p T Tv w hk hm Z bh h (lA (yCi a0 bd) (by omega)) (by omega) bc hh af S t o1 o2;have a7:((m.toList.take (l.length * es)).drop (k * es)).length=l.length * es-k * es:=by grind
 have a8:(p.toList.take (v.length * es)).length=v.length * es:=by grind
 have ck:∀j,k * es<=j->j<l.length * es->((m.toList.take (l.length * es)).drop (k * es))[j-k * es]? = m[j]?:=λj h h'=>by rw[yBD,show k * es+(j-k * es)=j by omega,List.getElem?_take,if_pos h'];simp
 have cm:∀j,j<v.length * es->(p.toList.take (v.length * es))[j]? = p[j]?:=λj h=>by grind
 generalize (m.toList.take (l.length * es)).drop (k * es)=CS at *;generalize p.toList.take (v.length * es)=VS at *;have fin:=XY hf (l:=l) (v:=v) (k:=k) (by omega);have Lf:(((l.take k++v++l.drop k).flatMap f).map D.c).length=(l.length+v.length) * es:=by grind
 have R1:Rel [OB f l,OB f v] M Fz w.drew:=R.heap rfl ⟨rfl,rfl,rfl⟩;have E1:bD [OB f l,OB f v] M Fz w [OB f l,OB f v] M Fz w.drew:=bD.heap R rfl ⟨rfl,rfl,rfl⟩;have bt:c<w.heap.size:=(BO.1 hh).1;have row:∀(A:Array Value)(M':Nat->Option Nat)(w':World),bD [OB f l,OB f v] M Fz w [OB f (l.take k++v++l.drop k),OB f v] M' Fz w'->(∀j,j<k * es->A[j]? = m[j]?)->(∀j,j<v.length * es->A[k * es+j]? = p[j]?)->(∀j,k * es<=j->j<l.length * es->A[j+v.length * es]? = m[j]?) ->
   ∀(i:Nat) d x,(((l.take k++v++l.drop k).flatMap f).map D.c)[i]? = some d->A[i]? = some x->V [OB f (l.take k++v++l.drop k),OB f v] M' Fz w' d x/\x.oneCell'=true:=λA M' w' E hA hB hC=>by
  rw[fin];exact SC (by omega) L0 L1 hA hB hC (λd x=>V [OB f (l.take k++v++l.drop k),OB f v] M' Fz w' d x/\x.oneCell'=true) (λi d x h1 h2=>⟨(a5 i d x h1 h2).1.mono E,(a5 i d x h1 h2).2⟩) (λi d x h1 h2=>⟨(a6 i d x h1 h2).1.mono E,(a6 i d x h1 h2).2⟩)
 have aa:(Ob.cells ((l.flatMap f).map D.c)).sz<(OB f (l.take k++v++l.drop k)).sz:=by show ((l.flatMap f).map D.c).length<(((l.take k++v++l.drop k).flatMap f).map D.c).length;omega
 by_cases r:l.length+v.length<=cap
 ·refine (hS r).mono λe w' he=>?_;obtain ⟨rfl,rfl⟩:=he;have bu:(l.length+v.length) * es<=cap * es:=FU _ r;generalize an:cG m ((k+v.length) * es) CS=K;have bv:K.size=m.size:=by grind [Un]
  generalize av:cG K (k * es) VS=q;have bw:q.size=m.size:=by grind [Un]
  rw[GJ];have ad:∀U T1 fr,Obj.cells m T (0,0)=.cells U T1 fr->∃N,Obj.cells q T (0,0)=.cells N T1 fr/\N.size=U.size:=λU T1 fr h=>by grind
  have EV:=bD.sv (ob':=OB f (l.take k++v++l.drop k)) R1 hM u hh (yCa aa) ad;have a9:=E1.trans EV (cR _);have g:∀j,q[j]? = if k * es<=j/\j<k * es+v.length * es then VS[j-k * es]? else K[j]?:=λj=>by rw[<-av,cq (by omega),a8]
  have g':∀j,K[j]? = if (k+v.length) * es<=j/\j<(k+v.length) * es+(l.length * es-k * es) then CS[j-(k+v.length) * es]? else m[j]?:=λj=>by rw[<-an,cq (by omega),a7]
  have hr:=row q M _ a9 (λj hj=>by rw[g,if_neg (by omega),g',if_neg (by omega)]) (λj hj=>by rw[g,if_pos (by omega),yB5];grind)
   (λj h h'=>by rw[g,if_neg (by omega),g',if_pos (by omega),show j+v.length * es-(k+v.length) * es=j-k * es by omega];grind)
  refine ⟨_,M,Fz,rfl,R1.sv hM u hh (yCa aa) ad ⟨q,T,rfl,by omega,hr⟩,?_,a9⟩;rw[nn];refine .sl _ _ _ (by simp) (OB f (l.take k++v++l.drop k)) rfl (by show _<=(((l.take k++v++l.drop k).flatMap f).map D.c).length;omega) (λ_=>.inr ⟨c,0,q,T,hM,rfl,rfl,⟨r,by omega⟩,.inl rfl,eQ bt,by omega,by omega⟩)
 ·refine (hG (by omega)).mono λe w' he=>?_;obtain ⟨G,s,bb,co,b0,rfl,rfl⟩:=he;have bu:(l.length+v.length) * es<=G * es:=FU _ bb;generalize an:cG s (k * es) VS=K;have bv:K.size=s.size:=by grind [Un]
  generalize av:cG K ((k+v.length) * es) CS=q;have bw:q.size=s.size:=by grind [Un]
  have EV:=bD.move (o':=.cells q (ρ.t 9)) (ob':=OB f (l.take k++v++l.drop k)) R u aa;have X:(cy (cy (w.alloc (.cells s (ρ.t 9))).drew w.heap.size (.cells K (ρ.t 9) (0,0))).drew w.heap.size (.cells q (ρ.t 9) (0,0))).heap=(w.alloc (.cells q (ρ.t 9))).heap:=by have e1:(cy (cy (w.alloc (.cells s (ρ.t 9))).drew w.heap.size (.cells K (ρ.t 9) (0,0))).drew w.heap.size (.cells q (ρ.t 9) (0,0))).heap=(cy (cy (w.alloc (.cells s (ρ.t 9))) w.heap.size (.cells K (ρ.t 9) (0,0))) w.heap.size (.cells q (ρ.t 9) (0,0))).heap:=rfl;rw[e1,Pf,PN]
  have g:∀j,q[j]? = if (k+v.length) * es<=j/\j<(k+v.length) * es+(l.length * es-k * es) then CS[j-(k+v.length) * es]? else K[j]?:=λj=>by rw[<-av,cq (by omega),a7]
  have g':∀j,K[j]? = if k * es<=j/\j<k * es+v.length * es then VS[j-k * es]? else s[j]?:=λj=>by rw[<-an,cq (by omega),a8]
  have hr:=row q _ _ EV (λj hj=>by rw[g,if_neg (by omega),g',if_neg (by omega),b0 j hj]) (λj hj=>by rw[g,if_neg (by omega),g',if_pos (by omega),yB5];grind)
   (λj h h'=>by rw[g,if_pos (by omega),show j+v.length * es-(k+v.length) * es=j-k * es by omega];grind)
  have RM:=R.move (o':=.cells q (ρ.t 9)) (ob':=OB f (l.take k++v++l.drop k)) u aa ⟨q,ρ.t 9,rfl,by omega,hr⟩;have cp:(w.alloc (.cells q (ρ.t 9))).os=w.os/\(w.alloc (.cells q (ρ.t 9))).tape=w.tape/\(w.alloc (.cells q (ρ.t 9))).output=w.output:=⟨rfl,rfl,rfl⟩;have RF:=RM.heap X ⟨rfl,rfl,rfl⟩;have EF:=EV.trans (bD.heap RM X ⟨rfl,rfl,rfl⟩) (cR _);refine ⟨_,_,Fz,rfl,RF,?_,?_⟩
  rotate_left
  ·exact EF
  rw[nn];refine .sl _ _ _ (by simp) (OB f (l.take k++v++l.drop k)) rfl (by show _<=(((l.take k++v++l.drop k).flatMap f).map D.c).length;omega) (λ_=>.inr ⟨w.heap.size,0,q,ρ.t 9,by simp[wh],rfl,rfl,⟨bb,by omega⟩,.inl rfl,?_,by omega,by omega⟩)
  grind [Go.heap_alloc_new]
end
end
end Go.Abs
end
section
namespace Go.Abs
open Go.Proofs Go.Shelf
noncomputable section
variable[Gl][Y:Ty]
def Kr{α:Type}(l v:List α)(k:Int):Option (List α):=if 0<=k/\k<l.length/\0<v.length/\l.length+v.length<=1000000 then some (l.take k.toNat++v++l.drop k.toNat) else none
def orE{α:Type}(a b:Option α):Option α:=match a with | some x=>some x | none=>b
theorem cV.or {P:Program} {g:FuncId} {o:CT} {s:List CT} {f1 f2:dA o.items→Option (qa s)} (u:cV P g ⟨o,s,f1⟩) (U:cV P g ⟨o,s,f2⟩):cV P g ⟨o,s,fun x=>orE (f1 x) (f2 x)⟩:=
 ⟨u.1,fun x y A σ E z G K j O hs R=>by
  change orE (f1 x) (f2 x)=some y at j
  cases h:f1 x with
  | some X =>
   rw [h] at j
   exact u.2 x y A σ E z G K (by rw [←j]; exact h) O hs R
  | none =>
   rw [h] at j
   exact U.2 x y A σ E z G K j O hs R⟩
theorem GU{P:Program}{ρ:Ren}{ii es j:Nat}{A:String}{z:Value}(L:Ku P ρ es j A z)(p:Nat.beq es (aw ii)=true)(E:aS P (ρ.f 22)=true)(q:Nat.beq z.cells.size es=true)(r:Nat.blt 0 es=true)(s:Nat.ble j 1000=true) :
  cV P (ρ.f 22) ⟨.mk [.p (.hd 0),.v (.c (.int .i64)),.p (.hd 1)] [] [.row ii,.row ii] [] [] [],[.mk [.p (.hd 0)] [.w 0 ii] [] [] [] []],λx=>Kr (α:=TT ii) x.1 x.2.1 x.2.2⟩:=by
 have:=cO p;subst this;refine ⟨E,λx y G σ S z K N g u d t=>?_⟩;dsimp only at g u d;change dA [It.ls ii,It.ls ii,It.cc (.int .i64)] at x;change dA [It.ls ii] at y;have m:some ([TV.c (.own ii 0 0 (List.length (α:=TT ii) x.1)),TV.c (.d (.c (.lit (.int .i64 x.2.2)))),TV.c (.own ii 1 0 (List.length (α:=TT ii) x.2.1))],[TB.row ii x.1 0 0,TB.row ii x.2.1 0 0])=some (G,σ):=by rw[<-u];have e:dL (CT.items (.mk [.p (.hd 0),.v (.c (.int .i64)),.p (.hd 1)] [] [.row ii,.row ii] [] [] [])) x=[⟨.ls ii,x.1⟩,⟨.ls ii,x.2.1⟩,⟨.cc (.int .i64),x.2.2⟩]:=rfl;unfold mO;rw[e];simp only[CT.pl,CT.nb,CT.out,bY,du,ky,yK,wu,FD,dO,dH,DM,List.nil_append,List.getElem?_cons_zero,List.getElem?_cons_succ,qX]
 simp only[au,aT] at m;obtain ⟨rfl,rfl⟩:=m;simp only[tq,au,ZD] at d;obtain ⟨rfl,rfl⟩:=d;have o:some ([TV.c (.own ii 0 1 (List.length (α:=TT ii) y))],[TB.row ii y 1 1,TB.row ii x.2.1 0 0])=some (K,N):=by rw[<-t];have e:dL (CT.items (.mk [.p (.hd 0)] [.w 0 ii] [] [] [] [])) y=[⟨.ls ii,y⟩]:=rfl;unfold mO;rw[e];simp only[CT.pl,CT.nb,CT.out,bY,du,ky,yK,wu,FD,dO,dH,DM,List.cons_append,List.nil_append,List.getElem?_cons_zero,List.getElem?_cons_succ,List.set_cons_zero,yCl]
 simp only[au,aT] at o;obtain ⟨rfl,rfl⟩:=o;obtain ⟨l,v,k⟩:=x;change List (TT ii) at l;change List (TT ii) at v;change List (TT ii) at y;change Int at k;change Kr l v k=some y at g;unfold Kr at g;split at g
 ·rename_i h;simp only[au] at g;subst g;obtain ⟨T,U,O,R⟩:=h;have:=Qn L (cO q) (tM.mp r) (Cq s) (rT ii) (l:=l) (v:=v) (k:=k.toNat) (by omega) O R;rw[show ((k.toNat:Nat):Int)=k by omega] at this;exact this
 ·simp at g
end
end Go.Abs
end
section
namespace Go.Abs
open Go.Proofs Go.Sort Go.RowKit
noncomputable section
structure OP (P:Program) (g:FuncId):Prop where
 en:aS P g=true
 run:∀(blk off cap:Nat)(zs:List Int)(w:World),Holds encZ w blk off zs.toArray->blk<w.heap.size->zs.length<4611686018427387904->Calls P g #[.slice (some ⟨blk,off,none⟩) zs.length cap] w λe w'=>e=.returned (.tuple #[])/\∃n os,w'=grow (putRow encZ (Sort.ahead w n) blk off (zs.mergeSort λx y=>decide (x<=y)).toArray) os
 nil:∀(p:Option Addr)(cap:Nat)(w:World),Calls P g #[.slice p 0 cap] w λe w'=>e=.returned (.tuple #[])/\w'=w
structure Bn (P:Program) (g:FuncId):Prop where
 en:aS P g=true
 run:∀(blk off cap:Nat)(zs:List Int)(w:World),Holds encZ w blk off zs.toArray->zs.length<=9223372036854775807->zs.length<=cap->Calls P g #[.slice (some ⟨blk,off,none⟩) zs.length cap] w λe w'=>e=.returned (.slice (some ⟨blk,off,none⟩) (Lib.compact zs).length cap)/\∃q,w'=putRow encZ (Sort.ahead w q) blk off (Lib.compact zs++List.replicate (zs.length-(Lib.compact zs).length) 0).toArray
 nil:∀(a:Option Addr)(cap:Nat)(w:World),Calls P g #[.slice a 0 cap] w λe w'=>e=.returned (.slice a 0 cap)/\w'=w
def Px(x:Int):List Int->List Int
 |[]=>[x]
 |y::l=>if x<=y then x::y::l else y::Px x l
def ML:List Int->List Int
 |[]=>[]
 |x::l=>Px x (ML l)
theorem As(x:Int):∀l,(Px x l).Perm (x::l)
 |[]=>.refl _
 |y :: l => by
  unfold Px;split
  ·exact .refl _
  ·exact ((As x l).cons y).trans (.swap ..)
theorem DH:∀l,(ML l).Perm l
 |[]=>.refl _
 |x::l=>(As x _).trans ((DH l).cons x)
theorem Bq(x:Int):∀{l:List Int},l.Pairwise (λa b=>decide (a<=b)=true)->(Px x l).Pairwise λa b=>decide (a<=b)=true
 |[],_=>by simp[Px]
 |y :: l, h => by
  have e:=yBm.1 h;unfold Px;split
  ·rename_i c;refine yBm.2 ⟨λa d=>?_,h⟩;rcases gn.1 d with rfl | d
   ·simpa using c
   ·have:=e.1 a d;simp at this ⊢;omega
  ·rename_i c;refine yBm.2 ⟨λa d=>?_,Bq x e.2⟩;rcases gn.1 ((As x l).mem_iff.1 d) with rfl | d
   ·simp;omega
   ·exact e.1 a d
theorem zX:∀l,(ML l).Pairwise λa b=>decide (a<=b)=true
 |[]=>.nil
 |x::l=>Bq x (zX l)
theorem Kq(l:List Int):ML l=l.mergeSort λx y=>decide (x<=y):=
 (List.mergeSort_of_pairwise (zX l)).symm.trans (Go.mergeSort_of_perm_i (DH l))
def ME{α:Type}(d:α->Int)(c:Int->α)(l:List α):Option (List α):=if l.length<=1000000 then some ((ML (l.map d)).map c) else none
def Mz{α:Type}(d:α->Int)(c:Int->α)(l:List α):Option (List α×List α):=if l.length<=1000000 then some (l++[c 0],(Lib.compact (l.map d)).map c) else none
abbrev dI(k:Int):D:=.c (.lit (.int .i64 k))
variable[Gl]
theorem Qu{σ:ar}{M:Nat->Option Nat}{Fz:Nat->Prop}{w:World}(R:Rel σ M Fz w){b c n:Nat}{os:Array Obj}{arr:Array Value}{T:TypeId}(x:M b=some c){zs e:List Int}(y:σ[b]? = some (.cells (zs.map dI)))
  (r:w.heap[c]? = some (.cells arr T (0,0))) (U:e.length=zs.length) (E:zs.length<=arr.size) :
  Rel (σ.set b (.cells (e.map dI))) M Fz (grow (putRow encZ (Sort.ahead w n) c 0 e.toArray) os)/\bD σ M Fz w (σ.set b (.cells (e.map dI))) M Fz (grow (putRow encZ (Sort.ahead w n) c 0 e.toArray) os)/\(grow (putRow encZ (Sort.ahead w n) c 0 e.toArray) os).heap[c]? = some (.cells (putCells encZ 0 e.toArray arr) T (0,0)):=by
 have G:c<w.heap.size:=(BO.1 r).1;have X:(putCells encZ 0 e.toArray arr).size=arr.size:=by simp[putCells]
 have m:∀j s t,Obj.cells arr T (0,0)=.cells j s t->∃o,Obj.cells (putCells encZ 0 e.toArray arr) T (0,0)=.cells o s t/\o.size=j.size:=λj s t h=>by simp_all
 have p:(Ob.cells (zs.map dI)).sz<=(Ob.cells (e.map dI)).sz:=by grind [Ob.sz]
 have cells:∀(i:Nat) k,e[i]? = some k->(putCells encZ 0 e.toArray arr)[i]? = some (encZ k):=λi k hk=>by
  have Z:i<e.length:=(gg.1 hk).1;have K:i<arr.size:=by omega
  simp only[putCells,Array.getElem?_mapIdx,rG K,Option.map_some]
  simp_all
 have L:=bD.sv (ob':=.cells (e.map dI)) R x y r p m;have A:=R.sv (ob':=.cells (e.map dI)) x y r p m ⟨_,T,rfl,by simp_all,λi d v hd u=>by rw[lY,cu] at hd;obtain ⟨k,hk,rfl⟩:=hd;rw[cells i k hk] at u;simp only[au] at u;subst u;exact ⟨.c (.lit _),rfl⟩⟩
 have q:=heap_sorted_i (n:=n) (os:=os) e.toArray r;have B:Below (cy w c (.cells (putCells encZ 0 e.toArray arr) T (0,0))).heap.size (cy w c (.cells (putCells encZ 0 e.toArray arr) T (0,0))) (grow (putRow encZ (Sort.ahead w n) c 0 e.toArray) os):=by
  obtain ⟨N,O,S,h4,h5⟩:=grownBy_sorted_i (w:=w) (g:=c) (n:=n) (os:=os) e.toArray;refine ⟨N,O,S,by simp_all,λk hk=>?_⟩
  grind [eQ,fN]
 exact ⟨A.below B,L.trans (bD.below A B) (by simp),q⟩
theorem Hw{σ:ar}{M:Nat->Option Nat}{Fz:Nat->Prop}{w:World}(R:Rel σ M Fz w){b c:Nat}{arr:Array Value}{T:TypeId}(k:M b=some c){zs:List Int}(m:σ[b]? = some (.cells (zs.map dI)))(h:w.heap[c]? = some (.cells arr T (0,0)))(o:zs.length<=arr.size) :
  Holds encZ w c 0 zs.toArray:=by
 obtain ⟨j,p,d,q,e⟩:=R.row k m;rw[h] at d;simp only[au,Obj.cells.injEq,Nr] at d;obtain ⟨rfl,rfl⟩:=d;refine holds_of_block_i h (TP λi=>?_);by_cases g:i<zs.length
 ·rw[List.getElem?_take,if_pos g,NC,lY,eH g,rG (by omega)];have:=(e i (dI zs[i]) (arr[i]'(by omega)) (by simp[g]) (rG _)).1.bZ
  simp_all
 simp_all
variable[Y:Ty]
theorem XL{P:Program}{g:FuncId}(K:OP P g){zs:List Int}(u:zs.length<=1000000) :
  Ok P g [.sl 0 0 zs.length 1 (zs.length * 1)] [.cells (zs.map dI)] (.aQ []) [.cells ((zs.mergeSort λx y=>decide (x<=y)).map dI)]:=by
 intro M Fz w A R hs N;obtain ⟨m,rfl⟩:∃m,A=#[m]:=by
  obtain ⟨O⟩:=A
  match O,hs with
  |[a],_=>simp_all
 have E:=N 0 _ m rfl rfl;have k:([Ob.cells (zs.map dI)]:ar)[0]? = some (.cells (zs.map dI)):=rfl;have j:mP [Ob.cells (zs.map dI)] 0 (zs.length * 1)=some (zs.map dI):=PE k (by simp);have S:(zs.mergeSort λx y=>decide (x<=y)).length=zs.length:=List.length_mergeSort zs;by_cases G:zs=[]
 ·subst G;have:∃p cap,m=.slice p 0 cap:=by
   rcases E.eY j with ⟨h,_⟩ | ⟨c,o,cap,q,T,r,h,_⟩ <;> exact ⟨_,_,h⟩
  obtain ⟨p,cap,rfl⟩:=this;refine (K.nil p cap w).mono ?_;rintro e U ⟨rfl,rfl⟩;rw[show ([]:List Int).mergeSort (λx y=>decide (x<=y))=[] by simp];exact ⟨_,M,Fz,rfl,R,.aQ _ rfl λi d v h=>by simp at h,bD.refl R⟩
 ·have X:zs.length≠0:=λh=>G (VI h);rcases E.eY j with ⟨_,e,_⟩ | ⟨c,o,cap,q,T,r,rfl,⟨Z,aa⟩,ho,s,L,_⟩
  ·omega
  obtain rfl:o=0:=by omega
  have t:c<w.heap.size:=(BO.1 s).1;refine (K.run c 0 cap zs w (Hw R r k s (by omega)) t (by omega)).mono ?_;rintro e U ⟨rfl,n,os,rfl⟩;obtain ⟨R',E',_⟩:=Qu (n:=n) (os:=os) R r k s S (by omega);exact ⟨_,M,Fz,rfl,R',.aQ _ rfl λi d v h=>by simp at h,E'⟩
theorem yw(zs:List Int):(Lib.compact zs).length<=zs.length:=by grind [Go.Lib.compact,Go.Lib.compactUpTo]
theorem Mh{P:Program}{g:FuncId}(K:Bn P g){zs garb:List Int}(u:zs.length<=1000000)(hg:zs.length<garb.length) :
  Ok P g [.sl 0 0 zs.length 1 (zs.length * 1)] [.cells (zs.map dI)] (.sl 1 0 (Lib.compact zs).length 1 ((Lib.compact zs).length * 1)) [.cells (garb.map dI),.cells ((Lib.compact zs).map dI)]:=by
 have N:(Lib.compact zs++List.replicate (zs.length-(Lib.compact zs).length) 0).length=zs.length:=by grind [yw]
 have m:Ok P g [.sl 0 0 zs.length 1 (zs.length * 1)] [.cells (zs.map dI)] (.sl 0 0 (Lib.compact zs).length 1 (zs.length * 1)) [.cells ((Lib.compact zs++List.replicate (zs.length-(Lib.compact zs).length) 0).map dI)]:=by
  intro M Fz w v R hs O;obtain ⟨q,rfl⟩:∃q,v=#[q]:=by
   obtain ⟨S⟩:=v
   match S,hs with
   |[a],_=>simp_all
  have x:=O 0 _ q rfl rfl;have k:([Ob.cells (zs.map dI)]:ar)[0]? = some (.cells (zs.map dI)):=rfl;have j:mP [Ob.cells (zs.map dI)] 0 (zs.length * 1)=some (zs.map dI):=PE k (by simp);by_cases y:zs=[]
  ·subst y;have:∃p cap,q=.slice p 0 cap:=by
    rcases x.eY j with ⟨h,_⟩ | ⟨c,o,cap,s,T,r,h,_⟩ <;> exact ⟨_,_,h⟩
   obtain ⟨p,cap,rfl⟩:=this;refine (K.nil p cap w).mono ?_
   grind [bD.refl]
  ·have U:zs.length≠0:=λh=>y (VI h);rcases x.eY j with ⟨_,e,_⟩ | ⟨c,o,cap,s,T,r,rfl,⟨X,Z⟩,ho,t,A,_⟩
   ·omega
   obtain rfl:o=0:=by omega
   have aa:c<w.heap.size:=(BO.1 t).1;refine (K.run c 0 cap zs w (Hw R r k t (by omega)) (by omega) (by omega)).mono ?_;rintro e w' ⟨rfl,n,rfl⟩;have e0:∀w:World,grow w #[]=w:=λw=>by simp_all
   obtain ⟨E,G,L⟩:=Qu (n:=n) (os:=#[]) R r k t N (by omega);rw[e0] at E G L;refine ⟨_,M,Fz,rfl,E,?_,G⟩;have:=yw zs;exact .sl _ _ _ (by simp) (.cells ((Lib.compact zs++List.replicate (zs.length-(Lib.compact zs).length) 0).map dI)) rfl (by grind [Ob.sz]) λ_=>.inr ⟨c,0,_,T,r,rfl,rfl,⟨by omega,by omega⟩,.inl rfl,L,by simp[putCells];omega,by omega⟩
 have:=Ok.cut (garb:=garb.map dI) m (by simp_all) (by grind) (λd hd=>by grind) (by simp_all) (by simp)
 simp_all
theorem VB{ii:Nat}{d:TT ii->Int}(hd:∀a,enc ii a=[.lit (.int .i64 (d a))])(l:List (TT ii)):OB (enc ii) l=.cells ((l.map d).map dI):=by
 unfold OB;congr 1;induction l with
 |nil=>rfl
 |cons a l ih=>simp_all
theorem QI{ii:Nat}{c:Int->TT ii}(d:∀k,enc ii (c k)=[.lit (.int .i64 k)])(l:List Int):OB (enc ii) (l.map c)=.cells (l.map dI):=by
 unfold OB;congr 1;induction l with
 |nil=>rfl
 |cons a l ih=>simp_all
theorem sort_oo{P:Program}{g ii:Nat}(K:OP P g){d:TT ii->Int}{c:Int->TT ii}(hd:∀a,enc ii a=[.lit (.int .i64 (d a))])(E:∀k,enc ii (c k)=[.lit (.int .i64 k)])(q:Nat.beq (aw ii) 1=true) :
  cV P g ⟨.mk [.p (.hd 0)] [] [.row ii] [] [] [],[.mk [] [.w 0 ii] [] [] [] []],λx=>ME (α:=TT ii) d c x⟩:=by
 have t:=cO q;refine ⟨K.en,λx y u σ G z v A m s j r=>?_⟩;dsimp only at m s j;change dA [It.ls ii] at x;change dA [It.ls ii] at y;have o:some ([TV.c (.own ii 0 0 (List.length (α:=TT ii) x))],[TB.row ii x 0 0])=some (u,σ):=by rw[<-s];have e:dL (CT.items (.mk [.p (.hd 0)] [] [.row ii] [] [] [])) x=[⟨.ls ii,x⟩]:=rfl;unfold mO;rw[e];simp only[CT.pl,CT.nb,CT.out,bY,du,ky,yK,wu,FD,dO,dH,DM,List.nil_append,List.getElem?_cons_zero]
 simp only[au,aT] at o;obtain ⟨rfl,rfl⟩:=o;simp only[tq,au,ZD] at j;obtain ⟨rfl,rfl⟩:=j;have p:some (([]:List TV),[TB.row ii y 1 1])=some (v,A):=by rw[<-r];have e:dL (CT.items (.mk [] [.w 0 ii] [] [] [] [])) y=[⟨.ls ii,y⟩]:=rfl;unfold mO;rw[e];simp only[CT.pl,CT.nb,CT.out,bY,du,ky,FD,dO,dH,DM,List.cons_append,List.nil_append,List.getElem?_cons_zero,List.set_cons_zero,yCl]
 simp only[au,aT] at p;obtain ⟨rfl,rfl⟩:=p;change List (TT ii) at x;change List (TT ii) at y;change ME d c x=some y at m;unfold ME at m;rw[Kq] at m;split at m
 ·rename_i h;simp only[au] at m;subst m;have:=XL K (zs:=x.map d) (by simp_all);show Ok P g [OS (aw ii) 0 x.length] [OB (enc ii) x] (.aQ []) [OB (enc ii) _]
  grind [VB,QI]
 simp_all
theorem Ot{P:Program}{g ii:Nat}(K:Bn P g){d:TT ii->Int}{c:Int->TT ii}(hd:∀a,enc ii a=[.lit (.int .i64 (d a))])(L:∀k,enc ii (c k)=[.lit (.int .i64 k)])(q:Nat.beq (aw ii) 1=true) :
  cV P g ⟨.mk [.p (.hd 0)] [] [.row ii] [] [] [],[.mk [.p (.hd 1)] [.w 0 ii] [.row ii] [] [] []],λx=>Mz (α:=TT ii) d c x⟩:=by
 have v:=cO q;refine ⟨K.en,λx y A σ N z E G m t j s=>?_⟩;dsimp only at m t j;change dA [It.ls ii] at x;change dA [It.ls ii,It.ls ii] at y;have o:some ([TV.c (.own ii 0 0 (List.length (α:=TT ii) x))],[TB.row ii x 0 0])=some (A,σ):=by rw[<-t];have e:dL (CT.items (.mk [.p (.hd 0)] [] [.row ii] [] [] [])) x=[⟨.ls ii,x⟩]:=rfl;unfold mO;rw[e];simp only[CT.pl,CT.nb,CT.out,bY,du,ky,yK,wu,FD,dO,dH,DM,List.nil_append,List.getElem?_cons_zero]
 simp only[au,aT] at o;obtain ⟨rfl,rfl⟩:=o;simp only[tq,au,ZD] at j;obtain ⟨rfl,rfl⟩:=j;have p:some ([TV.c (.own ii 1 0 (List.length (α:=TT ii) y.2))],[TB.row ii y.1 1 1,TB.row ii y.2 0 0])=some (E,G):=by rw[<-s];have e:dL (CT.items (.mk [.p (.hd 1)] [.w 0 ii] [.row ii] [] [] [])) y=[⟨.ls ii,y.1⟩,⟨.ls ii,y.2⟩]:=rfl;unfold mO;rw[e];simp only[CT.pl,CT.nb,CT.out,bY,du,ky,yK,wu,FD,dO,dH,DM,List.cons_append,List.nil_append,List.getElem?_cons_zero,List.getElem?_cons_succ,List.set_cons_zero,yCl]
 simp only[au,aT] at p;obtain ⟨rfl,rfl⟩:=p;obtain ⟨u,r⟩:=y;change List (TT ii) at x;change List (TT ii) at u;change List (TT ii) at r;change Mz d c x=some (u,r) at m;unfold Mz at m;split at m
 ·rename_i h;simp only[au,aT] at m;obtain ⟨rfl,rfl⟩:=m;have:=Mh K (zs:=x.map d) (garb:=x.map d++[d (c 0)]) (by simp_all) (by simp);show Ok P g [OS (aw ii) 0 x.length] [OB (enc ii) x] (OS (aw ii) 1 _) [OB (enc ii) _,OB (enc ii) _]
  grind [VB,QI]
 simp_all
end
end Go.Abs
end
section
namespace Go.Abs
section
variable[Gl]
def XA(d:List Sh)(xs:List C):Prop:=xs.length=d.length/\∀(i:Nat) t x,d[i]? = some t->xs[i]? = some x->Shaped t x
theorem XA.cons{s:Sh}{j:List Sh}{xs:List C}(h:XA (s::j) xs):∃x o,xs=x::o/\Shaped s x/\XA j o:=by
 obtain ⟨u,h⟩:=h
 match xs,u,h with
 |x::o,u,h=>exact ⟨x,o,rfl,h 0 s x rfl rfl,by simp_all,λi t y A E=>h (i+1) t y (by simp_all) (by simp_all)⟩
theorem XA.nil{xs:List C}(h:XA [] xs):xs=[]:=by simpa using h.1
variable[Y:Ty]
def shC(rec:Nat->List Sh):CC->Sh
 |.int k=>.int k
 |.bool=>.bool
 |.str=>.str
 |.sl j=>.sl (rec j)
 |.fk _=>.no
def shN:Nat->Nat->List Sh
 |0,_=>[]
 |k+1,i=>(Y.fl i).map (shC (shN k))
def shT(i:Nat):List Sh:=shN (i+1) i
theorem shC_dec{rec:Nat->List Sh}{r:(j:Nat)->TT j->List C}{c:CC}(o:∀j,c=.sl j->∀xs,XA (rec j) xs->∃a:TT j,xs=r j a){x:C}(h:Shaped (shC rec c) x):∃a:c.dn,x=sK r c a:=by
 cases c with
 |int k=>cases h with | int h=>exact ⟨_,rfl⟩
 |bool=>cases h with | bool b=>exact ⟨_,rfl⟩
 |str=>cases h with | str b=>exact ⟨_,rfl⟩
 |fk p=>cases h
 |sl j=>
  cases h with
  |sl e g m=>
   rename_i es;have:∃l:List (TT j),es=l.map (r j):=by
    clear e;induction es with
    |nil=>simp_all
    |cons y es ih=>obtain ⟨a,q⟩:=o j rfl y ⟨g y (by simp),m y (by simp)⟩;obtain ⟨l,e⟩:=ih (λz d=>g z (by simp[d])) (λz d=>m z (by simp[d]));exact ⟨a::l,by simp_all⟩
   obtain ⟨l,rfl⟩:=this;exact ⟨l,rfl⟩
theorem shL_dec{rec:Nat->List Sh}{r:(j:Nat)->TT j->List C}:∀(cs:List CC),(∀j,CC.sl j∈cs->∀xs,XA (rec j) xs->∃a:TT j,xs=r j a)->∀xs,XA (cs.map (shC rec)) xs->∃a:aQ cs,xs=nE r cs a:=by
 intro cs;induction cs with
 |nil=>intro _ xs h;exact ⟨(),h.nil⟩
 |cons c cs ih=>intro d xs h;obtain ⟨x,g,rfl,k,m⟩:=XA.cons h;obtain ⟨a,rfl⟩:=shC_dec (λj e=>d j (by simp_all)) k;obtain ⟨b,rfl⟩:=ih (λj e=>d j (oD _ e)) g m;exact ⟨(a,b),rfl⟩
theorem shN_dec:∀(k i:Nat),i<k->∀xs,XA (shN k i) xs->∃a:TT i,xs=MO k i a:=by
 intro k;induction k with
 |zero=>omega
 |succ k ih=>intro i e xs h;obtain ⟨a,rfl⟩:=shL_dec (rec:=shN k) (r:=MO k) (Y.fl i) (λj d=>ih j (by have:=Y.dn i j d;omega)) xs h;exact ⟨Y.mkt i a,by grind [MO,Ty.pm]⟩
theorem sh_dec(i:Nat){xs:List C}(h:XA (shT i) xs):∃a:TT i,xs=enc i a:=shN_dec (i+1) i (by omega) xs h
theorem arg_st(i:Nat){w:World}{xs:List C}{vs:Array Value}(h:Fb w (shT i) xs vs.toList):∃a:TT i,V [] (λ_=>none) (λc=>c<w.heap.size) w (de.enc (.st i) a) (.agg vs):=by have d:=V.UA h (σ:=[]) (M:=λ_=>none);obtain ⟨a,rfl⟩:=sh_dec i ⟨h.1,h.2.2.1⟩;exact ⟨a,d⟩
open Go.RowKit in
theorem Zp{P:Program}{g:FuncId}{ds:List D}(h:Pure P g ds (B true)){w:World}{vs:Array Value}(hs:vs.size=ds.length)
  (m:∀(i:Nat) d v,ds[i]? = some d->vs[i]? = some v->V [] (λ_=>none) (λc=>c<w.heap.size) w d v) (p:Gl.ok (λc=>c<w.heap.size) w) :
  Calls P g vs w λe o=>e=.returned (.bool true)/\Below w.heap.size w o:=by
 refine (h.2 _ _ w vs (Rel.start w p) hs m).mono λe o q=>?_;obtain ⟨v,s,r,rfl,t,m,j⟩:=q;exact ⟨by rw[m.bZ],j.out.1,j.out.2.1,j.out.2.2,j.size,λk hk=>(j.fz k hk).2⟩
end
end Go.Abs
end
