/- DfwMv, DfwSc, DfwRs, DfwRz, DfwPl, DfwPm, DfwPn, DfwPo, DfwPq -/
import Derived.Test.YtdfbphphacpkdaaGreatFwE
import Derived.ScopeJumps
import Derived.Test.YtdfbphphacpkdaaGreatFwD
set_option linter.all false
section
namespace Go.Abs
noncomputable section
variable[Gl][Y:Ty]
section
def Ra(M:Nat->Option Nat)(r t:Nat):Nat->Option Nat:=λb=>if b=t then M r else if b=r then none else M b
theorem wth_mv{M:Nat->Option Nat}{Fz:Nat->Prop}{r t:Nat}:Dl M Fz (Ra M r t) Fz:=⟨λb c h=>by
 unfold Ra at h;split at h
 ·exact ⟨r,h⟩
 ·split at h
  ·cases h
  ·exact ⟨b,h⟩,λc h=>.inl h,λc h=>h⟩
def Rj(r t:Nat)(σ1 au:ae):Prop:=∀b d,b≠t->σ1[b]? = some d->∃a,au[b]? = some a/\d.sz<=a.sz/\(b=r->d.sz<a.sz)/\(b≠r->a.sz=d.sz)
def gO(r t:Nat)(σ1 au:ae)(d1 d2:D):Prop:=∀(M:Nat->Option Nat)(Fz:Nat->Prop)(w:World)(v:Value),V σ1 M Fz w d1 v->V au (Ra M r t) Fz w d2 v
variable{r t:Nat}{σ1 au:ae}
theorem gO.any(d:D):gO r t σ1 au d .any:=λ_ _ _ v _=>.any v
theorem gO.c(x:C):gO r t σ1 au (.c x) (.c x):=λ_ _ _ v h=>by
 cases h with
 |c h=>exact .c h
theorem gO.ptr(S:Rj r t σ1 au){b off sz:Nat}(o:b≠t):gO r t σ1 au (.ptr b off sz) (.ptr b off sz):=λM Fz w v h=>by
 cases h with
 |ptr a u h i A=>
  obtain ⟨j,x,z,E,G⟩:=S b u o h;refine .ptr a j x (jz i z) λK=>?_;by_cases e:b=r
  ·omega
  grind [Ra]
theorem gO.sl(S:Rj r t σ1 au){b off len es sz:Nat}(z:b≠t):gO r t σ1 au (.sl b off len es sz) (.sl b off len es sz):=λM Fz w v h=>by
 cases h with
 |sl a n cap i A h j E=>
  obtain ⟨u,G,K,R,U⟩:=S b A z h;refine .sl a n cap i u G (jz j K) λW=>?_;by_cases e:b=r
  ·omega
  ·rcases E (by omega) with q | ⟨c,o,x,T,X,O⟩
   ·simp_all
   ·exact .inr ⟨c,o,x,T,by grind [Ra],O⟩
theorem gO.low(S:Rj r t σ1 au){d:D}(j:d.low t=true):gO r t σ1 au d d:=by
 intro M Fz w v h;induction h with
 |c h=>exact .c h
 |any v=>exact .any v
 |ptr a z h o u=>simp only[D.low,aQ] at j;exact gO.ptr S (by omega) M Fz w _ (.ptr a z h o u)
 |sl a n cap E z h o u=>simp only[D.low,aQ] at j;exact gO.sl S (by omega) M Fz w _ (.sl a n cap E z h o u)
 | @mp b c z h u=>
  simp only[D.low,aQ] at j;obtain ⟨G,x,R,W,X⟩:=S b z (by omega) h;refine .mp c G x λZ=>?_;by_cases e:b=r
  ·omega
  grind [Ra]
 |fn A U x R u hw K O=>simp only[D.low,bp] at j;exact .fn A U x R (λi d v a b=>K i d v a b (D.aO j.1 i d a)) (λi d v a b=>O i d v a b (D.aO j.2 i d a))
 |agg A x u ih=>simp only[D.low] at j;exact .agg A x (λi d v a b=>ih i d v a b (D.aO j i d a))
 |aI A x u ih=>simp only[D.low] at j;exact .aI A x (λi d v a b=>ih i d v a b (D.aO j i d a))
theorem gO.agg{ds es:List D}(h:aC (gO r t σ1 au) ds es):gO r t σ1 au (.agg ds) (.agg es):=λM Fz w v j=>by
 cases j with
 |agg o u j=>refine .agg o (by rw[u,h.len]) λi d v a b=>?_;obtain ⟨x,z,A⟩:=h.get' i d a;exact A M Fz w v (j i x v z b)
theorem gO.aI{ds es:List D}(h:aC (gO r t σ1 au) ds es):gO r t σ1 au (.aI ds) (.aI es):=λM Fz w v j=>by
 cases j with
 |aI o u j=>refine .aI o (by rw[u,h.len]) λi d v a b=>?_;obtain ⟨x,z,A⟩:=h.get' i d a;exact A M Fz w v (j i x v z b)
theorem gO.own{es n:Nat}{cs:List D}(x:σ1[r]? = some (.cells cs))(z:au[t]? = some (.cells cs))(K:n * es=cs.length):gO r t σ1 au (OS es r n) (OS es t n):=λM Fz w v h=>by
 cases h with
 |sl a n cap i O h j A=>
  rw[x] at h;simp only[aj] at h;subst h;refine .sl a n cap i _ z j λE=>?_;rcases A E with q | ⟨c,o,u,T,R,G⟩
  ·simp_all
  ·exact .inr ⟨c,o,u,T,by grind [Ra],G⟩
def YT(r t:Nat)(σ1 au:ae):Ob->Ob->Prop
 |.cells ds,ob=>∃a,ob=.cells a/\aC (gO r t σ1 au) ds a
 |.map a k,ob=>ob=.map a k/\(a.all λe=>e.2.1.low t)=true
 |.gone k,ob=>ob=.gone k
theorem YT.sz{a b:Ob}(h:YT r t σ1 au a b):b.sz=a.sz:=by
 cases a with
 |cells ds=>obtain ⟨i,rfl,h⟩:=h;simp only[Ob.sz,h.len]
 |map i k=>obtain ⟨rfl,_⟩:=h;rfl
 |gone k=>cases h;rfl
theorem stw_mv{m:Nat}{K al2:AL}{cs:List D}(ad:r≠t)(hm:m<=t)(h1:σ1[r]? = some (.cells cs))(h2:au[t]? = some (.cells cs))(hc:∀d∈cs,∃c,d=D.c c)(S:Rj r t σ1 au)
  (W:∀b ob,b≠t->b≠r->σ1[b]? = some ob->∃g,au[b]? = some g/\YT r t σ1 au ob g) (hr:∀s d2,lk s al2=some d2->∃d1,lk s K=some d1/\gO r t σ1 au d1 d2):nX m K σ1 al2 au:=by
 refine ⟨by grind,λn M Fz w ab R A=>⟨Ra M r t,Fz,⟨λb c f=>?_,λb b' c f a=>?_,R.fz,R.gl⟩,⟨A.1,λs d hs=>?_⟩,wth_mv,λσ0 M0 af w0 R0 E hl=>?_⟩⟩
 ·unfold Ra at f;split at f
  ·rename_i e;subst e;obtain ⟨z,ob,o,q,G,l⟩:=R.blk r c f;rw[h1] at q;simp only[aj] at q;subst q;obtain ⟨j,T,L,p,N⟩:=l;refine ⟨z,_,o,h2,G,j,T,L,p,λi d v x y=>?_⟩;obtain ⟨O,U⟩:=N i d v x y;obtain ⟨k,rfl⟩:=hc d (vB x);exact ⟨gO.c k M Fz w v O,U⟩
  ·split at f
   ·grind
   ·rename_i X e2;obtain ⟨z,ob,o,q,G,l⟩:=R.blk b c f;obtain ⟨g,q5,u⟩:=W b ob X e2 q;refine ⟨z,g,o,q5,G,?_⟩;cases ob with
    |cells ds=>obtain ⟨es,rfl,u⟩:=u;obtain ⟨j,T,L,p,N⟩:=l;refine ⟨j,T,L,by grind [aC.len],λi d v x y=>?_⟩;obtain ⟨d1,O,U⟩:=u.get' i d x;obtain ⟨Z,z4⟩:=N i d1 v O y;exact ⟨U M Fz w v Z,z4⟩
    |map es k=>obtain ⟨rfl,u⟩:=u;obtain ⟨j,L,p,N⟩:=l;refine ⟨j,L,p,λi k d n e x y=>?_⟩;obtain ⟨O,U,Z⟩:=N i k d n e x y;rw[fE] at u;exact ⟨O,U,gO.low S (u (k,d,n) (vB x)) M Fz w _ Z⟩
    |gone n=>exact l.elim
 ·unfold Ra at f a;split at f
  ·split at a
   ·omega
   ·split at a
    ·simp_all
    ·have:=R.inj r b' c f a;omega
  ·split at f
   ·grind
   ·split at a
    ·have:=R.inj b r c f a;omega
    ·split at a
     ·simp_all
     ·exact R.inj b b' c f a
 ·obtain ⟨d1,z,q⟩:=hr s d hs;obtain ⟨v,G,l⟩:=A.2 s d1 z;exact ⟨v,G,q M Fz w v l⟩
 ·refine ⟨E.size,E.frame,λb c h=>?_,E.fz,E.lD,E.nF,λb ob f=>?_,E.out⟩
  ·unfold Ra at h;split at h
   ·exact E.ja r c h
   ·split at h
    ·simp at h
    ·exact E.ja b c h
  ·obtain ⟨aa,z,q,G⟩:=E.keep b ob f;have ak:=(d_.1 f).1;have X:b≠t:=by omega
   obtain ⟨g,l,q5,u,q7⟩:=S b aa X z;refine ⟨g,l,by omega,λhe=>?_⟩;by_cases e:b=r
   ·omega
   grind [Ra]
end
theorem Un{m:Nat}{al:AL}{σ:ae}{ob:Ob}(hm:m<=σ.length):nX m al σ al (σ++[ob]):=by
 have iM:kz σ (σ++[ob]):=λb a h=>⟨a,by grind,rfl⟩;refine ⟨by grind,λn M Fz w O R A=>⟨M,Fz,⟨λb c G=>?_,R.inj,R.fz,R.gl⟩,⟨A.1,λs d hs=>?_⟩,Dl.refl,λσ0 Z W w0 R0 E l=>?_⟩⟩
 ·obtain ⟨S,a,o,U,u,j⟩:=R.blk b c G;obtain ⟨K,q5,q6⟩:=iM b a U;refine ⟨S,a,o,by grind,u,?_⟩;have g:∀{d v},V σ M Fz w d v->V (σ++[ob]) M Fz w d v:=λh=>h.sub iM (λ_ _ h=>h) (λc h=>⟨h,rfl⟩) (λc f T X h=>⟨f,h,rfl⟩);cases a with
  |cells cs=>obtain ⟨f,T,L,l,z⟩:=j;exact ⟨f,T,L,l,λi d v x y=>⟨g (z i d v x y).1,(z i d v x y).2⟩⟩
  |map es N=>obtain ⟨f,L,l,z⟩:=j;exact ⟨f,L,l,λi k d n e x y=>let ⟨p,q,r⟩:=z i k d n e x y;⟨p,q,g r⟩⟩
  |gone n=>exact j.elim
 ·obtain ⟨v,u,j⟩:=A.2 s d hs;exact ⟨v,u,j.sub iM (λ_ _ h=>h) (λc h=>⟨h,rfl⟩) (λc f T X h=>⟨f,h,rfl⟩)⟩
 ·refine ⟨E.size,E.frame,E.ja,E.fz,E.lD,E.nF,λb a G=>?_,E.out⟩;obtain ⟨K,S,U,u⟩:=E.keep b a G
  grind
theorem nX.le{m m':Nat}{i al2:AL}{σ1 au:ae}(h:nX m i σ1 al2 au)(hm:m'<=m):nX m' i σ1 al2 au:=⟨jz hm h.1,λn M' Fz' w' j R A=>by
 obtain ⟨o,u,x,z,E,G⟩:=h.2 n M' Fz' w' j R A;refine ⟨o,u,x,z,E,?_⟩
 grind⟩
section
variable{P:Program}{n:Nat}{al0 al al2:AL}{σ0 σ au:ae}{Q:kT->AL->ae->Prop}
def yY(P:Program)(ac:aH)(k:Nat)(n:Nat)(σ0:ae)(al:AL)(σ:ae)(Q:kT->AL->ae->Prop):Prop:=
 ∀ (c : Code), bg P c = some ac -> ∀ (g : Nat -> Option Nat) (b : Nat -> Prop) (d : World) (M : Nat -> Option Nat) (Fz : Nat -> Prop) (w : World) (a : Act) (K : Exit -> Act -> World -> Prop), Rel σ0 g b d -> Rel σ M Fz w -> dP n σ M Fz w al a.tmps ->
  ba σ0 g b d σ M Fz w->σ0.length<=σ.length->∀e,Mk d.heap.size M Fz w a.defers e ->
  (∀x f σ' h w' M' Fz',Q x f σ'->Mk d.heap.size M' Fz' w' h.defers e->Rel σ' M' Fz' w'->dP n σ' M' Fz' w' f h.tmps->ba σ0 g b d σ' M' Fz' w'->σ0.length<=σ'.length->K (vD x) h w')->Code.rq P c K k a w
theorem yY.start{ac:aH}{k:Nat}(hs:nX σ0.length al0 σ0 al σ)(h:yY P ac k n σ0 al σ Q):jN P ac k n al0 σ0 Q:=by intro c i M Fz w a K R A j;obtain ⟨o,u,x,z,E,G,O⟩:=hs.use R R A (ba.refl R) (cn _);exact h c i M Fz w o u w a K R x z E G a.defers (Mk.refl _ _) j
theorem yY.succ{b:aH}{k:Nat}(h:Sem P b n al σ λx j σ1=>match x with | .normal=>∃al2 au,nX σ0.length j σ1 al2 au/\yY P b k n σ0 al2 au Q | x=>Q x j σ1):yY P b (k+1) n σ0 al σ Q:=by
 intro c G M0 o w0 M Fz w u K O R A U W z E X;rw[Fv];refine h c G M Fz w u _ R A λx j σ1 Z w' M' Fz' hQ hd R' A' E' hl=>?_;have E1:=U.trans E' W;have hd:=Mk.trans E' U.size E hd;cases x with
 |normal=>obtain ⟨al2,au,hw,hs⟩:=hQ;obtain ⟨M2,F2,R2,A2,E2,l2,W2⟩:=hw.use O R' A' E1 (cn _);exact hs c G M0 o w0 M2 F2 w' Z K O R2 A2 E2 l2 z (hd.Zc W2) X
 |exit i=>grind [nS]
 |ret=>exact X .ret j σ1 Z w' M' Fz' hQ hd R' A' E1 (jz W hl)
end
section
variable{σ σ1:TH}{σD:ae}{alD:AL}{t r:Nat}
theorem ym{x:TC}{d:D}{σ1 au:ae}(S:Rj r t σ1 au)(l:RC x d)(f:ZS t x=true):gO r t σ1 au d x.er:=by
 rcases l with rfl | rfl
 ·exact gO.any _
 have j:∀{b:Nat},(!Nat.beq b t)=true->b≠t:=λh e=>by simp_all
 cases x with
 |any=>exact gO.any _
 |d x=>exact gO.low S f
 |own i b v n=>exact gO.sl S (j f)
 |op i b v n k a off=>exact gO.ptr S (j f)
 |ap b off len sz k=>exact gO.ptr S (j f)
 |os i b v n o len=>exact gO.sl S (j f)
 |Cj g p=>exact gO.low S (wF f)
 |_=>exact gO.c _
theorem NU{x:TC}{d:D}{σ1 au:ae}(S:Rj r t σ1 au)(a:RC x d):gO r t σ1 au d (MO t x).er:=by
 unfold MO;split
 ·grind [ym]
 ·exact gO.any _
theorem Ep{σ':TH}(a:Ext σ σ'){x:TC}(h:GC σ x):GC σ' (MO t x):=by
 unfold MO;split
 ·exact h.mono a
 ·exact True.intro
theorem VO{xs:List TC}{ds:List D}{σ1 au:ae}(S:Rj r t σ1 au)(a:aC RC xs ds):∃es,aC (gO r t σ1 au) ds es/\aC RC (xs.map (MO t)) es:=by
 induction a with
 |nil=>exact ⟨[],.nil,.nil⟩
 |cons h _ ih=>obtain ⟨es,b,d⟩:=ih;exact ⟨_::es,.cons (NU S h) b,.cons (.inr rfl) d⟩
theorem Wm{al a:TA}{x:RV}{d:D}{σ1 au:ae}{σ':TH}(e:Ext σ σ')(S:Rj r t σ1 au)(f:RR x d)(h:GW al σ x):∃b,gO r t σ1 au d b/\RR (Cx t x) b/\GW a σ' (Cx t x):=by
 have any:∃b,gO r t σ1 au d b/\RR (.v (.c .any)) b/\GW a σ' (.v (.c .any)):=⟨.any,gO.any _,Or.inl rfl,True.intro⟩;cases x with
 |g c w p x=>exact any
 |v x=>
  cases x with
  |c x=>exact ⟨_,NU S f,Or.inr rfl,Ep (x:=x) e h⟩
  |aI j=>exact any
  |agg j=>obtain ⟨ds,rfl,k⟩:=f;obtain ⟨l,o,q⟩:=VO S k;refine ⟨_,gO.agg o,⟨l,rfl,q⟩,λx i=>?_⟩;rw[dY] at i;obtain ⟨y,u,rfl⟩:=i;exact Ep e (h y u)
theorem UE{x:TV}{d:D}{σ1 au:ae}(S:Rj r t σ1 au)(j:RT x d)(b:nrV t x=true):∃u,gO r t σ1 au d u/\RT x u:=by
 have v:∀{e:List TC}{ds:List D},aC RC e ds->e.all (ZS t)=true->∃a,aC (gO r t σ1 au) ds a/\aC RC e a:=by
  intro e ds h;induction h with
  |nil=>intro _;exact ⟨[],.nil,.nil⟩
  |cons h _ ih=>intro b;simp only[List.all_cons,bp] at b;obtain ⟨a,g,i⟩:=ih b.2;exact ⟨_::a,.cons (ym S h b.1) g,.cons (.inr rfl) i⟩
 cases x with
 |c x=>exact ⟨_,ym S j b,Or.inr rfl⟩
 |agg e=>obtain ⟨ds,rfl,k⟩:=j;obtain ⟨a,g,i⟩:=v k b;exact ⟨_,gO.agg g,a,rfl,i⟩
 |aI e=>
  obtain ⟨ds,rfl,k⟩:=j;have:∃a,aC (gO r t σ1 au) ds a/\aC RE e a:=by
   simp only[nrV] at b;induction k with
   |nil=>exact ⟨[],.nil,.nil⟩
   | @cons p d e ds h _ ih=>
    simp only[List.all_cons,bp] at b;obtain ⟨a,g,i⟩:=ih b.2;obtain ⟨f,G⟩:=p;cases f with
    |true=>obtain ⟨z,rfl,l⟩:=h;obtain ⟨o,A,E⟩:=v l (by simp_all);exact ⟨_::a,.cons (gO.agg A) g,.cons ⟨o,rfl,E⟩ i⟩
    |false=>
     obtain ⟨y,rfl,l⟩:=h;have q:ZS t y=true:=by simp_all
     exact ⟨_::a,.cons (ym S l q) g,.cons ⟨y,rfl,.inr rfl⟩ i⟩
  obtain ⟨a,g,i⟩:=this;exact ⟨_,gO.aI g,a,rfl,i⟩
theorem nrR_ok{x:RV}{d:D}{σ1 au:ae}(S:Rj r t σ1 au)(a:RR x d)(b:nrR t x=true):∃e,gO r t σ1 au d e/\RR x e:=by
 cases x with
 |g c w p x=>
  by_cases h:c=w
  ·simp only[RR,if_pos h] at a ⊢;exact UE S a b
  ·simp only[RR,if_neg h] at a ⊢;subst a;exact ⟨.aI [],gO.low S rfl,rfl⟩
 |v x=>exact UE S a b
theorem Sf(σ:TH)(t:Nat):Ext σ (σ.map (uc t)):=λb blk h=>by
 refine ⟨uc t blk,by simp_all,?_⟩;cases blk with
 |row i l a d=>exact BE.refl _
 |mp j st l v=>exact BE.refl _
 |cells w f=>
  refine ⟨w+1,_,rfl,Nat.le_succ _,by simp,λj v x g k e o=>?_⟩
  grind [Cw]
theorem NN(i:Nat)(l:List (TT i)):(OB (enc i) l).sz<(OB (enc i) (l++[Hf i])).sz:=by have h:0<ar i:=Y.ps i;simp only[Ob.sz,OB,ql,List.flatMap_append,Jw,VZ,List.flatMap_nil,Kp,pz];omega
theorem YA{al:TA}{s:Nat}{x:RV}{p:Nat}:∀{pre:TA},dR s (pre.map (λp=>(p.1,Cx t p.2))++al)=some (x,p) ->
  (∃a,dR s (pre++al)=some (a,p)/\x=Cx t a)∨(dR s (pre++al)=some (x,p)/\dR s al=some (x,p)):=by
 intro pre;induction pre with
 |nil=>simp_all
 |cons y pre ih=>
  intro h;obtain ⟨s',y⟩:=y;simp only[iH,List.cons_append,dR] at h ⊢
  grind
theorem lkP_in{s:Nat}{x:RV}{p:Nat}:∀{al:TA},dR s al=some (x,p)->(s,x)∈al:=by
 intro al;induction al with
 |nil=>grind [dR]
 |cons y al ih=>grind [dR,Nat.eq_of_beq_eq_true]
theorem Xe{blk:TB}{σ1 au:ae}(S:Rj r t σ1 au):YT r t σ1 au blk.er (uc t blk).er:=by
 cases blk with
 |cells w g=>
  refine ⟨_,rfl,aC.sq (by simp) λj a b e d=>?_⟩;rw[gP,bU] at e;obtain ⟨p,f,rfl⟩:=e;rw[gP,gP,f] at d;simp only[Option.map_some,aj] at d;subst d;unfold Cw;split
  ·rename_i h;exact ym S (.inr rfl) h
  ·exact gO.any _
 |row i l k o=>
  refine ⟨_,rfl,aC.sq rfl λj a b e d=>?_⟩
  grind [gO.c]
 |mp j st l v=>exact ⟨rfl,EU (λa=>GI _ _ _ _) _ _⟩
theorem ZJ(H:RH σ σD){b:Nat}{ob:Ob}(h:σD[b]? = some ob):∃blk,σ[b]? = some blk/\ob=blk.er:=by
 have a:b<σ.length:=by grind [RH.len]
 obtain ⟨e,d,f⟩:=H.hp b _ (cT a);rw[h] at d;simp only[aj] at d;exact ⟨_,cT a,d.trans f⟩
theorem SX{n b j m:Nat}{pre al0 ab:TA}{σ0 σ':TH}{ad:AL}{af:ae}(R0:Ref al0 σ0 ad af)(ak:Ext σ0 σ)(u:Ref (pre++al0) σ alD σD)(hn:n=pre.length)(hm:m<=t)(ht:t<σ.length)(h:mvA n t b j (pre++al0) σ=some (ab,σ')) :
  ∃A T U,ab=A++al0/\A.length=pre.length/\nX m alD σD T U/\Ref (A++al0) σ' T U/\Ext σ σ'/\σ'.length=σ.length:=by
 unfold mvA at h;split at h
 rotate_left
 ·simp at h
 rename_i w z X;split at h
 rotate_left
 ·simp at h
 rename_i v0 i r v q hj;split at h
 ·simp only[aj,aM] at h;obtain ⟨rfl,rfl⟩:=h;exact ⟨pre,alD,σD,rfl,rfl,nX.refl (by rw[u.hh.len];omega),u,Ext.refl _,rfl⟩
 rename_i Z;have Z:r≠t:=λe=>by simp_all
 split at h
 rotate_left
 ·simp at h
 rename_i i1 l lv cv g l2 lt ct hr an;split at h
 rotate_left
 ·simp at h
 rename_i hc;simp only[bp] at hc;obtain ⟨c1,c2,c3⟩:=hc;have c1:=cr c1;have c2:=cr c2;subst c1 c2;have E:(pre++al0).drop n=al0:=by simp_all
 have aa:(pre++al0).take n=pre:=by simp_all
 rw[E] at c3;rw[E,aa] at h;simp only[aj,aM] at h;obtain ⟨rfl,h⟩:=h;have ga:∀(b:Nat) blk,σ[b]? = some blk->(σ.map (uc t))[b]? = some (uc t blk):=λb blk e=>by simp_all
 have x0:=Sf σ t;have ax:=ga t _ an;have x1:Ext σ ((σ.map (uc t)).set t (.row g l (lt+1) (ct+1))):=Ext.trans u.hh x0 (Ext.set ax ⟨l,lt+1,ct+1,rfl,by omega,by omega,λe=>by omega,λe=>by omega⟩);have a0:((σ.map (uc t)).set t (.row g l (lt+1) (ct+1)))[r]? = some (.row g l v cv):=by rw[Ru Z];exact ga r _ hr
 have x2:Ext σ (((σ.map (uc t)).set t (.row g l (lt+1) (ct+1))).set r (.row g (l++[Hf g]) (v+1) (cv+1))):=Ext.trans u.hh x1 (Ext.set a0 ⟨_,v+1,cv+1,rfl,by omega,by omega,λe=>by omega,λe=>by omega⟩);have a1:b≠t:=λe=>by simp_all
 have a2:b≠r:=λe=>by simp_all
 have a5:(((σ.map (uc t)).set t (.row g l (lt+1) (ct+1))).set r (.row g (l++[Hf g]) (v+1) (cv+1)))[b]? = some (.cells (w+1) (z.map (Cw t w))):=by rw[Ru a2,Ru a1];exact ga b _ X
 have a8:∀p∈z,p.1<=w:=λp hp=>(u.hh.hg b w z X p hp).2;have x3:Ext σ σ':=by
  rw[<-h];refine Ext.trans u.hh x2 (Ext.set a5 ⟨w+2,_,rfl,by omega,by simp,λk va xa vb xb e e1=>?_⟩)
  grind
 have len:σ'.length=σ.length:=by grind
 have gt:σ'[t]? = some (.row g l (lt+1) (ct+1)):=by grind
 have gr:σ'[r]? = some (.row g (l++[Hf g]) (v+1) (cv+1)):=by grind
 have gb:σ'[b]? = some (.cells (w+2) ((z.map (Cw t w)).set j (w+2,.own g t (lt+1) l.length))):=by grind
 have go:∀(o:Nat),o≠t->o≠r->o≠b->σ'[o]? = (σ[o]?).map (uc t):=λo e1 e2 O=>by grind
 clear h;have gj:=(u.hh.hg b w z X _ (vB hj)).1;obtain ⟨ei,el⟩:=mF u.hh gj hr (by simp);subst ei;have S:Rj r t σD (σ'.map TB.er):=λo ob e1 e2=>by
  obtain ⟨blk,O,rfl⟩:=ZJ u.hh e2;rw[gP];by_cases e4:o=r
  ·subst e4;rw[hr] at O;simp only[aj] at O;subst O;rw[gr];have:=NN g l;exact ⟨_,rfl,yBR this,λ_=>this,λe=>absurd rfl e⟩
  ·by_cases e5:o=b
   ·subst e5;rw[X] at O;simp only[aj] at O;subst O;rw[gb];have e6:(TB.er (.cells (w+2) ((z.map (Cw t w)).set j (w+2,.own g t (lt+1) l.length)))).sz=(TB.er (.cells w z)).sz:=by simp[TB.er,Ob.sz]
    simp_all
   ·rw[go o e1 e4 e5,O];have e6:(uc t blk).er.sz=blk.er.sz:=by
     cases blk with
     |cells w z=>simp[uc,TB.er,Ob.sz]
     |_=>rfl
    simp_all
 have a6:σD[r]? = some (.cells ((l.flatMap (enc g)).map .c)):=u.hh.row hr;have a7:(σ'.map TB.er)[t]? = some (.cells ((l.flatMap (enc g)).map .c)):=by rw[gP,gt];rfl
 have own:gO r t σD (σ'.map TB.er) (OS (ar g) r q) (OS (ar g) t l.length):=by grind [gO.own,Rb,pz]
 have G:∀s,∃R,∀x p,dR s (pre.map (λp=>(p.1,Cx t p.2))++al0)=some (x,p)->GW (pre.map (λp=>(p.1,Cx t p.2))++al0) σ' x/\∃K,lk s alD=some K/\gO r t σD (σ'.map TB.er) K R/\RR x R:=by
  intro s;cases hs:dR s (pre.map (λp=>(p.1,Cx t p.2))++al0) with
  |none=>simp_all
  |some y=>
   obtain ⟨x,p⟩:=y;have:∃R,GW (pre.map (λp=>(p.1,Cx t p.2))++al0) σ' x/\∃K,lk s alD=some K/\gO r t σD (σ'.map TB.er) K R/\RR x R:=by
    rcases YA hs with ⟨x0,W,rfl⟩ | ⟨W,L⟩
    ·obtain ⟨K,N,h4,h5⟩:=u.rg s x0 p W;obtain ⟨R,h6,h7,h8⟩:=Wm x3 S h4 h5;exact ⟨R,h8,K,N,h6,h7⟩
    ·obtain ⟨K,N,h4,_⟩:=u.rg s x p W;obtain ⟨_,_,_,h5⟩:=R0.rg s x p L;have hx:nrR t x=true:=fE.1 c3 _ (lkP_in L);obtain ⟨R,h6,h7⟩:=nrR_ok S h4 hx;exact ⟨R,h5.mono (Ext.trans R0.hh ak x3) _,K,N,h6,h7⟩
   simp_all
 refine ⟨_,(pre.map (λp=>(p.1,Cx t p.2))++al0).map λp=>(p.1,Classical.choose (G p.1)),σ'.map TB.er,rfl,by simp,stw_mv Z hm a6 a7 (λd hd=>?_) S (λo ob e1 e2 O=>?_) (λs R h=>?_),⟨⟨by simp,λo blk e=>⟨_,by simp_all,rfl⟩,λo w' a9 e p hp=>?_⟩,λs x p h=>?_⟩,x3,len⟩
 ·grind
 ·obtain ⟨blk,e4,rfl⟩:=ZJ u.hh O;rw[gP];by_cases e5:o=b
  ·subst e5;rw[X] at e4;simp only[aj] at e4;subst e4;rw[gb];refine ⟨_,rfl,_,rfl,aC.sq (by simp) λk a c W L=>?_⟩;rw[gP,bU] at W;obtain ⟨p,N,rfl⟩:=W;rw[gP] at L;by_cases ek:j=k
   ·subst ek;rw[hj] at N;simp only[aj] at N;subst N;rw[yB2,if_pos rfl,if_pos (by simp_all)] at L;simp only[Option.map_some,aj] at L;subst L;exact own
   ·rw[yBX ek,gP,N] at L;simp only[Option.map_some,aj] at L;subst L;unfold Cw;split
    ·rename_i h;exact ym S (.inr rfl) h
    ·exact gO.any _
  grind [Xe]
 ·obtain ⟨⟨x,p,N⟩,rfl⟩:=Au (f:=λs=>Classical.choose (G s)) h;obtain ⟨_,K,h4,h5,_⟩:=yBQ (G s) x p N
  simp_all
 ·have cut:∀{w:Nat}{z:List (Nat×TC)}{b:Nat},σ[b]? = some (.cells w z)->∀p∈z.map (Cw t w),GC σ' p.2/\p.1<=w+1:=λ{w z b} X p hp=>by
   rw[dY] at hp;obtain ⟨y,hy,rfl⟩:=hp;obtain ⟨g1,g2⟩:=u.hh.hg b w z X y hy;unfold Cw;split
   ·exact ⟨g1.mono x3,by omega⟩
   ·exact ⟨True.intro,cn _⟩
  by_cases e1:o=t
  ·simp_all
  by_cases e2:o=r
  ·simp_all
  by_cases e5:o=b
  ·subst e5;rw[gb] at e;simp only[aj,TB.cells.injEq] at e;obtain ⟨rfl,rfl⟩:=e;rcases yBY hp with hp | rfl
   ·grind
   ·refine ⟨⟨_,gt,λj l' bb bc e=>?_⟩,cn _⟩
    grind
  ·rw[go o e1 e2 e5,bU] at e;obtain ⟨blk,e6,e7⟩:=e;cases blk with
   |cells w0 bd=>grind [uc]
   |row i l lv cv=>grind [uc]
   |mp j st l v=>grind [uc]
 ·obtain ⟨W,K,L,N,h4⟩:=yBQ (G s) x p h;exact ⟨_,Ft (f:=λs=>Classical.choose (G s)) ⟨x,p,h⟩,h4,W⟩
theorem mvL_ok{n m:Nat}{al0:TA}{σ0:TH}{g:AL}{i:ae}(x:Ref al0 σ0 g i):∀(zs:List (Nat×Nat×Nat)){pre a:TA}{σ σ':TH}{alD:AL}{σD:ae},Ext σ0 σ->Ref (pre++al0) σ alD σD->n=pre.length->(∀z∈zs,m<=z.2.2/\z.2.2<σ.length)->m<=σ.length->mvL n zs (pre++al0) σ=some (a,σ') ->
  ∃d e f,a=d++al0/\nX m alD σD e f/\Ref (d++al0) σ' e f/\Ext σ0 σ':=by
 intro zs;induction zs with
 |nil=>intro pre a σ σ' alD σD p q _ _ y h;simp only[mvL,aj,aM] at h;obtain ⟨rfl,rfl⟩:=h;exact ⟨pre,alD,σD,rfl,nX.refl (by rw[q.hh.len];exact y),q,p⟩
 |cons z zs ih=>
  intro pre a σ σ' alD σD p q A L y h;obtain ⟨b,j,t⟩:=z;simp only[mvL] at h;split at h
  ·rename_i N σ1 O;obtain ⟨u,v⟩:=L _ (iz ..);obtain ⟨E,G,K,rfl,R,s1,S,T,len⟩:=SX x p q A u v O;obtain ⟨k,l,o,U,W,X,Z⟩:=ih (Ext.trans x.hh p T) S (A.trans R.symm) (λz aa=>by grind) (by omega) h;exact ⟨k,l,o,U,s1.trans W,X,Z⟩
  simp_all
theorem mvE_ok{m:Nat}:∀(zs:List (Nat×Nat×Nat)){al a:TA}{σ σ':TH}{alD:AL}{σD:ae},Ref al σ alD σD->m<=σ.length->mvE zs al σ=some (a,σ') ->
  a=al/\σ'.length=σ.length+zs.length/\(∀z∈zs,σ.length<=z.2.2/\z.2.2<σ'.length)/\∃d f,nX m alD σD d f/\Ref al σ' d f/\Ext σ σ':=by
 intro zs;induction zs with
 |nil=>intro al a σ σ' alD σD R o h;simp only[mvE,aj,aM] at h;obtain ⟨rfl,rfl⟩:=h;exact ⟨rfl,rfl,by simp,alD,σD,nX.refl (by rw[R.hh.len];exact o),R,Ext.refl _⟩
 |cons z zs ih=>
  intro al a σ σ' alD σD R o h;obtain ⟨b,j,t⟩:=z;simp only[mvE] at h;split at h
  rotate_left
  ·simp at h
  rename_i p U;have A:=cr p;subst A;split at h
  rotate_left
  ·simp at h
  rename_i i _ _ _ _;split at h
  rotate_left
  ·simp at h
  rename_i E σ1 G;have K:Ref al (σ++[.row i [] 0 0]) alD (σD++[.cells []]):=R.heap (R.hh.push (blk:=.row i [] 0 0) (ob:=.cells []) rfl (λw W e=>by simp at e)) (Ext.push σ _);obtain ⟨g,u,v,x,L,s1,y,q,len⟩:=SX (pre:=[]) (m:=m) R (Ext.push σ _) K rfl o (by simp) G;have:g=[]:=PM L;subst this;rw[xAf] at x y;subst x;have len:σ1.length=σ.length+1:=by simp_all
  have q:Ext σ σ1:=Ext.trans R.hh (Ext.push σ _) q;obtain ⟨N,X,Z,k,l,O,S,T⟩:=ih y (by omega) h;refine ⟨N,by grind,λz hz=>?_,k,l,(Un (by rw[R.hh.len];exact o)).trans (s1.trans O),S,Ext.trans R.hh q T⟩
  grind
end
end
end Go.Abs
end
section
namespace Go.Abs
noncomputable section
variable[Gl][Y:Ty]
def jumps(P:Program)(b:Code)(l:Nat)(Q:Exit->Act->World->Prop):Nat->Act->World->Prop
 |0,_,_=>False
 |k+1,a,w=>b.wp P (Exit.jump l (jumps P b l Q k) Q) a w
theorem CW{P:Program}{Q:Exit->Act->World->Prop}{c j:Code}{l:Nat}(L:findLabel c l=some j){k:Nat}{a:Act}{w:World}(first:c.wp P (Exit.jump l (jumps P j l Q k) Q) a w):(Code.scope c).wp P Q a w:=by
 intro b y z;have G:gotoIn l (.inScope c::y)=some (.code j::.inScope c::y):=by simp[gotoIn,L]
 have A:∀k a w,jumps P j l Q k a w->∃e K w',Q e K w'/\Arrives P (lone (b.at a (.code j::.inScope c::y)) z w) b y z e K w':=by
  intro k;induction k with
  |zero=>intro a w h;exact h.elim
  |succ k ih=>
   intro a w h;obtain ⟨e,d,f,p,g⟩:=h b (.inScope c::y) z;cases e with
   |normal=>exact ⟨.normal,d,f,p,Steps.trans g (.one step_inScope)⟩
   |exit id=>exact ⟨.exit id,d,f,p,λE hk=>g E (by simp[exitTo,hk])⟩
   |goto N=>obtain ⟨rfl,x⟩:=p;obtain ⟨q,u,v,o,i⟩:=ih d f x;exact ⟨q,u,v,o,.of_steps (g _ G) i⟩
   |ret=>exact ⟨_,d,f,p,g⟩
   |panic O=>exact ⟨_,d,f,p,g⟩
   |outgrown=>exact ⟨_,d,f,p,g⟩
 obtain ⟨e,d,f,p,g⟩:=first b (.inScope c::y) z
 cases e with
 |normal=>exact ⟨.normal,d,f,p,.head step_scope (Steps.trans g (.one step_inScope))⟩
 |exit id=>exact ⟨.exit id,d,f,p,λE hk=>.head step_scope (g E (by simp[exitTo,hk]))⟩
 |goto N=>obtain ⟨rfl,x⟩:=p;obtain ⟨q,u,v,o,i⟩:=A _ d f x;exact ⟨q,u,v,o,.of_steps (.head step_scope (g _ G)) i⟩
 |ret=>exact ⟨_,d,f,p,.of_steps (.one step_scope) g⟩
 |panic O=>exact ⟨_,d,f,p,.of_steps (.one step_scope) g⟩
 |outgrown=>exact ⟨_,d,f,p,.of_steps (.one step_scope) g⟩
theorem fl_ok{P:Program}{l:Nat}:∀{b:Code}{a:aH},bg P b=some a->(∀r,Mw l a=some r->∃f,findLabel b l=some f/\bg P f=some r)/\(Mw l a=none->findLabel b l=none):=by
 intro b;induction b with
 |seq q u i j=>
  intro a h;simp only[bg] at h;split at h
  ·rename_i k O v z;simp only[aj] at h;subst h;obtain ⟨p1,R⟩:=i v;obtain ⟨S,T⟩:=j z;simp only[Mw,findLabel];cases A:Mw l k with
   |some E=>obtain ⟨f,G,U⟩:=p1 E A;rw[G];refine ⟨λr d=>?_,λK=>by grind⟩;simp only[aj] at d;subst d;exact ⟨_,rfl,by grind [bg]⟩
   |none=>simp_all
  simp_all
 |label L=>
  intro a h;simp only[bg,aj] at h;subst h;simp only[Mw,findLabel];split
  ·refine ⟨λr d=>?_,λK=>by grind⟩;simp only[aj] at d;subst d;exact ⟨_,rfl,rfl⟩
  simp_all
 |scope b ih=>intro a h;simp only[bg,bU] at h;obtain ⟨k,_,rfl⟩:=h;rcases Hn k with ⟨L,W,_,e⟩ | e <;> rw[e] <;> exact ⟨λr d=>by grind [Mw],λ_=>rfl⟩
 |region id N p=>
  intro a h;have:Mw l a=none:=by
   simp only[bg] at h;split at h
   ·cases p with
    |false=>simp only[bA,bT,aj] at h;subst h;rfl
    |true=>simp only[if_true] at h;split at h <;> (simp only[aj] at h;subst h;rfl)
   ·simp only[aj] at h;subst h;rfl
  exact ⟨λr d=>by simp_all,λ_=>rfl⟩
 |cond o q u i j=>
  intro a h;have:Mw l a=none:=by simp only[bg] at h;split at h <;> (simp only[aj] at h;subst h;rfl)
  exact ⟨λr d=>by simp_all,λ_=>rfl⟩
 |rangeFunc g X x y=>intro a h;rcases dC h with ⟨_,_,_,_,_,_,_,rfl⟩ | rfl <;> exact ⟨λr d=>(by cases d),λ_=>rfl⟩
 |block id b ih=>intro a h;simp only[bg,bU] at h;obtain ⟨k,_,rfl⟩:=h;exact ⟨λr d=>by grind [Mw],λ_=>rfl⟩
 |loop b ih=>intro a h;simp only[bg,bU] at h;obtain ⟨k,_,rfl⟩:=h;exact ⟨λr d=>by grind [Mw],λ_=>rfl⟩
 |_=>intro a h;simp only[bg,aj] at h;subst h;exact ⟨λr d=>by grind [Mw],λ_=>rfl⟩
section
variable{P:Program}{n:Nat}{al:AL}{σ:ae}{Q:kT->AL->ae->Prop}
theorem Sem.Wi{l:Nat}(E:Q .normal al σ):Sem P (.Wi l) n al σ Q:=by
 intro c i M Fz w u K R A G;cases c with
 |label X=>exact Su (G .normal al σ u w M Fz E (Mk.refl _ _) R A (ba.refl R) (cn _))
 |region id O j=>
  simp only[bg] at i;split at i
  ·cases j with
   |false=>simp at i
   |true=>simp only[if_true] at i;split at i <;> simp at i
  ·simp at i
 |seq c1 U=>simp only[bg] at i;split at i <;> simp at i
 |cond o c1 U=>simp only[bg] at i;split at i <;> simp at i
 |scope b=>simp only[bg,bU] at i;obtain ⟨W,_,z⟩:=i;rcases Hn W with ⟨l,r,_,e⟩ | e <;> rw[e] at z <;> simp at z
 |rangeFunc g Z x y=>rcases dC i with ⟨_,_,_,_,_,_,_,e⟩ | e <;> cases e
 |_=>simp[bg] at i
def QW(P:Program)(r:aH)(l:Nat)(k:Nat)(n:Nat)(al:AL)(σ:ae)(Q:kT->AL->ae->Prop):Prop:=
 ∀ (c : Code), bg P c = some r -> ∀ (M : Nat -> Option Nat) (Fz : Nat -> Prop) (w : World) (a : Act) (K : Exit -> Act -> World -> Prop), Rel σ M Fz w -> dP n σ M Fz w al a.tmps ->
  (∀x b σ' d w' M' Fz',Q x b σ'->Mk w.heap.size M' Fz' w' d.defers a.defers->Rel σ' M' Fz' w'->dP n σ' M' Fz' w' b d.tmps->ba σ M Fz w σ' M' Fz' w'->σ.length<=σ'.length->K (vD x) d w')->jumps P c l K k a w
def Jmp(P:Program)(r:aH)(l:Nat)(k:Nat)(n:Nat)(m:Nat)(Q:kT->AL->ae->Prop):kT->AL->ae->Prop
 |.exit i,al,σ=>(i=2 * l+1/\∃al2 au,nX m al σ al2 au/\QW P r l k n al2 au Q)∨(i % 2=0/\Q (.exit i) al σ)
 |x,al,σ=>Q x al σ
theorem Jmp.use{r:aH}{l k:Nat}{c:Code}(hc:bg P c=some r){M:Nat->Option Nat}{Fz:Nat->Prop}{w:World}{a:Act}{K:Exit->Act->World->Prop}(R:Rel σ M Fz w)
  (z:∀x u σ' j w' M' Fz',Q x u σ'->Mk w.heap.size M' Fz' w' j.defers a.defers->Rel σ' M' Fz' w'->dP n σ' M' Fz' w' u j.tmps->ba σ M Fz w σ' M' Fz' w'->σ.length<=σ'.length->K (vD x) j w')
  {x:kT} {o:AL} {σ1:ae} {j:Act} {w':World} {M':Nat->Option Nat} {Fz':Nat->Prop} (O:Jmp P r l k n σ.length Q x o σ1) (hd:Mk w.heap.size M' Fz' w' j.defers a.defers) (A:Rel σ1 M' Fz' w') (E:dP n σ1 M' Fz' w' o j.tmps) (G:ba σ M Fz w σ1 M' Fz' w') (U:σ.length<=σ1.length) :
  Exit.jump l (jumps P c l K k) K (vD x) j w':=by
 cases x with
 |normal=>exact z .normal o σ1 j w' M' Fz' O hd A E G U
 |ret=>exact z .ret o σ1 j w' M' Fz' O hd A E G U
 |exit i=>
  rcases O with ⟨rfl,al2,au,hw,hs⟩ | ⟨he,hq⟩
  ·rw[IG];obtain ⟨M2,F2,R2,A2,E2,l2,W2⟩:=hw.use R A E G (cn _);exact ⟨rfl,hs c hc M2 F2 w' j K R2 A2 λx W X a3 w3 M3 Z aa ab R3 A3 E3 ad=>z x W X a3 w3 M3 Z aa (Mk.trans E3 E2.size (hd.Zc W2) ab) R3 A3 (E2.trans E3 l2) (jz l2 ad)⟩
  ·have:=z (.exit i) o σ1 j w' M' Fz' hq hd A E G U;rw[yt he] at this ⊢;exact this
theorem QW.succ{r:aH}{l k:Nat}(h:Sem P r n al σ (Jmp P r l k n σ.length Q)):QW P r l (k+1) n al σ Q:=by intro c i M Fz w a K R A j;exact (h c i M Fz w a _ R A λx o σ1 U w' M' Fz' u hd z E G O=>Jmp.use i R j u hd z E G O).1
theorem Sem.Rl{l:Nat}{a r:aH}(k:Nat)(h:Sem P a n al σ (Jmp P r l k n σ.length Q)):Sem P (.Rl l a r) n al σ Q:=by
 intro c i M Fz w z K R A O;cases c with
 |scope b=>
  simp only[bg,bU] at i;obtain ⟨U,E,j⟩:=i;rcases Hn U with ⟨l',r',W,e⟩ | e
  ·rw[e] at j;simp only[aH.Rl.injEq] at j;obtain ⟨rfl,rfl,rfl⟩:=j;obtain ⟨G,f1,X⟩:=(fl_ok E).1 _ W;exact ⟨CW f1 (k:=k) (h b E M Fz w z _ R A λx Z σ1 a' w' M' Fz' hQ hd R' A' E' hl=>Jmp.use X R O hQ hd R' A' E' hl).1,λhh=>by simp[Code.calm] at hh⟩
  ·rw[e] at j;simp at j
 |region id aa u=>
  simp only[bg] at i;split at i
  ·cases u with
   |false=>simp at i
   |true=>simp only[if_true] at i;split at i <;> simp at i
  ·simp at i
 |seq c1 c2=>simp only[bg] at i;split at i <;> simp at i
 |cond o c1 c2=>simp only[bg] at i;split at i <;> simp at i
 |rangeFunc g ps x y=>rcases dC i with ⟨_,_,_,_,_,_,_,e⟩ | e <;> cases e
 |_=>simp[bg] at i
end
end
end Go.Abs
end
section
namespace Go.Abs
section
variable{σ σ':ae}{M M':Nat->Option Nat}{Fz Fz':Nat->Prop}{w w' w'':World}{P:Program}
theorem VC.tR(j:∀c:Nat,Fz c->w'.heap[c]? = w.heap[c]?){x:C}{v:Value}(h:VC Fz w x v):VC Fz w' x v:=h.mono λc i=>⟨i,j c i⟩
theorem V.tR(O:∀c:Nat,(Fz c∨∃b,M b=some c)->w'.heap[c]? = w.heap[c]?){d:D}{v:Value}(h:V σ M Fz w d v):V σ M Fz w' d v:=by
 induction h with
 |c h=>exact .c (h.tR λc U=>O c (.inl U))
 |any v=>exact .any v
 |ptr a x h j i=>exact .ptr a x h j i
 |sl a n cap A x h j i=>
  refine .sl a n cap A x h j (λW=>?_);rcases i W with u | ⟨c,o,E,T,R,X,Z,hl,hh,hb,hr⟩
  ·exact .inl u
  ·exact .inr ⟨c,o,E,T,R,X,Z,hl,hh,by rw[O c (.inr ⟨_,R⟩)];exact hb,hr⟩
 |mp c x h i=>exact .mp c x h i
 |fn z ws u h2 i hw G K=>exact .fn z ws u h2 G K
 |agg z u i ih=>exact .agg z u ih
 |aI z u i ih=>exact .aI z u ih
theorem bE.tR(K:∀c:Nat,(Fz c∨∃b,M b=some c)->w'.heap[c]? = w.heap[c]?){ob:Ob}{o:Obj}(h:bE σ M Fz w ob o):bE σ M Fz w' ob o:=by
 cases ob with
 |cells O=>obtain ⟨j,T,A,E,u⟩:=h;exact ⟨j,T,A,E,λi d v x z=>⟨(u i d v x z).1.tR K,(u i d v x z).2⟩⟩
 |map R G=>obtain ⟨j,A,E,u⟩:=h;exact ⟨j,A,E,λi k d n e x z=>let ⟨a,b,c⟩:=u i k d n e x z;⟨a,b,c.tR K⟩⟩
 |gone n=>exact h.elim
variable[Gl]
theorem Rel.tR(i:∀c:Nat,(Fz c∨∃b,M b=some c)->w'.heap[c]? = w.heap[c]?)(hs:w.heap.size<=w'.heap.size)(R:Rel σ M Fz w):Rel σ M Fz w':={
 blk:=λb c h=>by obtain ⟨u,ob,o,h1,h2,x⟩:=R.blk b c h;exact ⟨u,ob,o,h1,by rw[i c (.inr ⟨b,h⟩)];exact h2,x.tR i⟩
 inj:=R.inj
 fz:=λc h=>By (R.fz c h) hs
 gl:=Gl.mono (λc j=>⟨j,i c (.inl j)⟩) R.gl }
theorem Rel.none(R:Rel σ M Fz w):Rel [] (λ_=>none) Fz w:=⟨λb c h=>by simp at h,λb i c h=>by simp at h,R.fz,R.gl⟩
omit [Gl] in
theorem ba.tR(E:ba σ M Fz w σ' M' Fz' w')(o:∀c:Nat,(Fz' c∨∃b,M' b=some c)∨c<w.heap.size->w''.heap[c]? = w'.heap[c]?)(hs:w'.heap.size<=w''.heap.size)(u:w''.os=w'.os/\w''.tape=w'.tape/\w''.output=w'.output):ba σ M Fz w σ' M' Fz' w'':={
 size:=jz E.size hs
 frame:=λc i G=>by rw[o c (.inr i)];exact E.frame c i G
 ja:=E.ja
 fz:=λc i=>⟨(E.fz c i).1,by rw[o c (.inl (.inl (E.fz c i).1))];exact (E.fz c i).2⟩
 lD:=E.lD
 nF:=λc x T K i=>by have z:=(xR.1 i).1;obtain ⟨j,h,A⟩:=E.nF c x T K i;exact ⟨j,by rw[o c (.inr z)];exact h,A⟩
 keep:=E.keep
 out:=⟨u.1.trans E.out.1,u.2.1.trans E.out.2.1,u.2.2.trans E.out.2.2⟩ }
theorem V.uG{G:Nat->Prop}(K:∀c,Fz c->G c){d:D}{v:Value}(h:V σ M Fz w d v):V σ M G w d v:=by
 induction h with
 |c h=>exact .c (h.mono λc O=>⟨K c O,rfl⟩)
 |any v=>exact .any v
 |ptr a o h j i=>exact .ptr a o h j i
 |sl a n cap z o h j i=>exact .sl a n cap z o h j i
 |mp c o h i=>exact .mp c o h i
 |fn u R x U i W A E=>exact .fn u R x U A E
 |agg u x i ih=>exact .agg u x ih
 |aI u x i ih=>exact .aI u x ih
theorem Rel.uG{x:Nat->Prop}(R:Rel σ M Fz w)(z:∀c,Fz c->x c)(O:∀c,x c->Fz c∨((∀b,M b≠some c)/\c<w.heap.size)):Rel σ M x w:={
 blk:=λb c h=>by
  obtain ⟨U,ob,o,h1,h2,A⟩:=R.blk b c h;refine ⟨λW=>(O c W).elim U λX=>X.1 b h,ob,o,h1,h2,?_⟩;cases ob with
  |cells cs=>obtain ⟨j,T,E,G,u⟩:=A;exact ⟨j,T,E,G,λi d v h1 h2=>⟨(u i d v h1 h2).1.uG z,(u i d v h1 h2).2⟩⟩
  |map es K=>obtain ⟨j,E,G,u⟩:=A;exact ⟨j,E,G,λi k d n e h1 h2=>let ⟨a,b,c⟩:=u i k d n e h1 h2;⟨a,b,c.uG z⟩⟩
  |gone n=>exact A.elim
 inj:=R.inj
 fz:=λc h=>(O c h).elim (R.fz c) λh=>h.2
 gl:=Gl.mono (λc Z=>⟨z c Z,rfl⟩) R.gl }
omit [Gl] in
theorem ba.uG{j:Nat->Prop}(E:ba σ M Fz w σ' M' Fz' w')(o:∀c,Fz' c->j c)(u:∀c,j c->Fz' c∨w.heap.size<=c):ba σ M Fz w σ' M' j w':={
 size:=E.size
 frame:=E.frame
 ja:=E.ja
 fz:=λc i=>⟨o c (E.fz c i).1,(E.fz c i).2⟩
 lD:=λc i=>(u c i).elim (E.lD c) λh=>.inr (.inr h)
 nF:=E.nF
 keep:=E.keep
 out:=E.out }
def seen(M:Nat->Option Nat)(Fz:Nat->Prop)(c:Nat):Prop:=Fz c∨∃b,M b=some c
theorem Dz{a:Nat->Prop}(b:∀c,Fz c->a c):(λc=>seen M Fz c∨a c)=seen M a:=funext λc=>propext ⟨λh=>h.elim (λh=>h.imp (b c) id) .inl,λh=>h.elim .inr λh=>.inl (.inr h)⟩
theorem Rel.FP(R:Rel σ M Fz w){c:Nat}(h:seen M Fz c):c<w.heap.size:=h.elim (R.fz c) λ⟨_,h⟩=>(R.lt h).2
omit [Gl] in
theorem ba.kept{x:Nat->Option Nat}{F j:Nat->Prop}(E:ba σ M Fz w σ' M' Fz' w')(W:Dl M' Fz' x j)(A:∀c:Nat,F c->j c/\w'.heap[c]? = w.heap[c]?):Kept F (seen M Fz) w j (seen x j) w':={
 size:=E.size
 off:=λc G i=>by
  unfold seen at i;simp only[not_or,not_exists] at i;have z:∀b,M' b≠some c:=λb K=>(E.ja b c K).elim (λ⟨o,u⟩=>i.2 o u) (by omega);have O:¬Fz' c:=λh=>by
   rcases E.lD c h with h | ⟨o,u⟩ | h
   ·exact i.1 h
   ·exact i.2 o u
   ·omega
  refine ⟨E.frame c G i.2,λh=>?_⟩;rcases h with h | ⟨b,h⟩
  ·rcases W.2.1 c h with h | ⟨b,h⟩
   ·exact O h
   ·exact z b h
  ·obtain ⟨R,U⟩:=W.1 b c h;exact z R U
 fz:=A
 out:=E.out }
def UO:kT->Code
 |.normal=>.skip
 |.exit i=>if i % 2=0 then .exit (i / 2) else .goto (i / 2)
 |.ret=>.ret
omit [Gl] in
theorem wp_jmp{x:kT}{Q:Exit->Act->World->Prop}{a:Act}(h:Q (vD x) a w):(UO x).wp P Q a w:=by
 cases x with
 |normal=>exact wp_skip h
 |ret=>exact wp_ret h
 |exit i=>
  unfold vD at h;unfold UO;dsimp only at h ⊢;split <;> rename_i e
  ·rw[if_pos e] at h;exact wp_exit h
  ·rw[if_neg e] at h;exact wp_goto h
omit [Gl] in
theorem HO{I:Nat->(Nat->Prop)->(Nat->Prop)->World->Prop}{f:Code->(Nat->Prop)->(Nat->Prop)->World->Prop}{i:Nat}{F U b d:Nat->Prop}{x:kT}{a:Act}(g:x≠.normal)(k:Kept F U w b d w')(h:f (UO x) b d w'):rpost I f i F U w (vD x) a w':=by
 cases x with
 |normal=>exact absurd rfl g
 |ret=>exact ⟨b,d,k,h⟩
 |exit j=>
  unfold UO at h;unfold vD;dsimp only at h ⊢;split <;> rename_i e
  ·rw[if_pos e] at h;exact ⟨b,d,k,h⟩
  ·rw[if_neg e] at h;exact ⟨b,d,k,h⟩
def IP:List Nat->List D->AL->AL
 |p::ps,d::ds,al=>IP ps ds ((p,d)::al)
 |_,_,al=>al
omit [Gl] in
theorem dP.IP{n:Nat}:∀{ps:List Nat}{ds:List D}{vs:List Value}{al:AL}{i:Array Value},dP n σ M Fz w al i->(∀p∈ps,p<n)->ps.length=ds.length->vs.length=ds.length->(∀(k:Nat) d v,ds[k]? = some d->vs[k]? = some v->V σ M Fz w d v) ->
  dP n σ M Fz w (IP ps ds al) ((ps.zip vs).foldl (λt (p,v)=>t.setIfInBounds p v) i):=by
 intro ps;induction ps with
 |nil=>intro ds vs al i A _ _ _ _;simpa[Abs.IP] using A
 |cons p ps ih=>
  intro ds vs al i A u x z E;cases ds with
  |nil=>simp at x
  |cons d ds=>
   cases vs with
   |nil=>simp at z
   |cons v vs=>
    simp only[Abs.IP,List.zip_cons_cons,List.foldl_cons];refine ih ⟨by simp[A.1],λt G j=>?_⟩ (λq K=>u q (h_ _ K)) (by simpa using x) (by simpa using z) λk d v a b=>E (k+1) d v (by simpa using a) (by simpa using b);simp only[lk] at j;split at j
    ·rename_i o;have:=cr o;subst this;simp only[aj] at j;subst j;refine ⟨v,?_,E 0 _ _ rfl rfl⟩;rw[Rk,if_pos rfl,if_pos (by rw[A.1];exact u _ (by simp))]
    ·rename_i o;obtain ⟨O,R,U⟩:=A.2 t G j;refine ⟨O,?_,U⟩;rw[Rk,if_neg (λe=>by rw[e] at o;simp at o)];exact R
end
section
variable[Gl][Ty]{P:Program}{n:Nat}{Q:kT->AL->ae->Prop}
def Rng(P:Program)(a b:aH)(n:Nat)(ps:List Nat)(g:Nat)(x:C)(m:Nat)(Q:kT->AL->ae->Prop):List (List D)->AL->ae->Prop
 |[],al,σ=>(σ[g]? = some (.cells [.c x])/\σ.length=m)/\Q .normal al σ
 |ds :: xs, al, σ => (σ[g]? = some (.cells [.c x]) /\ σ.length = m) /\ Sem P a n (IP ps ds al) σ λe h σ1 => e = .normal /\ Sem P b n h σ1 λe _ au => match e with
  |.normal=>∃d f,nX m al au d f/\Rng P a b n ps g x m Q xs d f
  |e=>Q e al au
theorem Rng.cap{a b:aH}{ps:List Nat}{i:Nat}{x:C}{m:Nat}{xs:List (List D)}{al:AL}{σ:ae}(h:Rng P a b n ps i x m Q xs al σ):σ[i]? = some (.cells [.c x])/\σ.length=m:=by
 cases xs with
 |nil=>exact h.1
 |cons d ds=>exact h.1
theorem Sem.preW{ac:aH}{al al2:AL}{σ au:ae}(hs:nX σ.length al σ al2 au)(h:Sem P ac n al2 au Q):Sem P ac n al σ Q:=by intro c o M Fz w a K R A u;obtain ⟨z,E,G,O,U,j,W2⟩:=hs.use R R A (ba.refl R) (cn _);exact h c o z E w a K G O λx i σ' W w' M' Fz' X hd Z A' E' hl=>u x i σ' W w' M' Fz' X hd Z A' (U.trans E' j) (jz j hl)
theorem Sem.QY{o:aG}{ps:List Nat}{a b:aH}{gf bc:Nat}{x:C}{items:List (List D)}{al:AL}{σ:ae}(ho:(match o with | .t k=>lk k al | .k d=>some d)=some (.fn (.func gf) [] [.ptr bc 0 1]))
  (af:aN P gf=true) (it:ItOk P gf [[x]] items) (bh:∀ds∈items,ds.length=ps.length) (bu:∀p∈ps,p<n) (h:Rng P a b n ps bc x σ.length Q items al σ):Sem P (.QY o ps a b) n al σ Q:=by
 intro c G M Fz w ab K R A hK;cases c with
 |rangeFunc g pt c1 c2=>
  rcases dC G with ⟨o',a',b',h1,h2,h3,h4,e⟩ | e
  ·simp only[aH.QY.injEq] at e;obtain ⟨rfl,rfl,rfl,rfl⟩:=e;simp only[bp] at h4;refine ⟨?_,λhh=>by simp[Code.calm] at hh⟩;have hv:=ki A.cK.1 h1;have bv:o.ev (uA n al)=.fn (.func gf) [] [.ptr bc 0 1]:=by
    cases o with
    |t k=>dsimp only at ho;simp[aG.ev,A.cK.2.2 k _ ho]
    |k d=>simp only[aj] at ho;subst ho;rfl
   rw[bv] at hv;obtain ⟨lb,bw,b0,b1⟩:∃lb:Array Value,ab.eval g=.func (.func gf) #[] lb/\lb.size=1/\∀v,lb[0]? = some v->V σ M Fz w (.ptr bc 0 1) v:=by
    generalize ab.eval g=y at hv;cases hv with
    |fn vs ws g1 g2 _ g4=>have:vs=#[]:=Array.eq_empty_of_size_eq_zero (by simpa using g1);exact ⟨ws,by rw[this],by simpa using g2,λv hv=>g4 0 _ v rfl hv⟩
   have eg:∀args w,(callFunc gf args).run P w=.ok (.enter gf args) w:=λargs w=>by
    unfold aN at af;split at af
    ·rename_i fn b2;simp only[bp,EE,ne_eq] at af;obtain ⟨hb,b3⟩:=af;have b4:fn.body.isNone=false:=by simp_all
     simp only[callFunc,Sem.run_bind,Sem.run_pure,Result.andThen_ok,run_program,b2,lO,b3,b4,bT,bA]
    ·simp at af
   obtain ⟨I,hI⟩:∃I:Nat->(Nat->Prop)->(Nat->Prop)->World->Prop,I=λi F U W=>∃E z X,Rng P a b n pt.toList bc x σ.length Q (items.drop i) E z/\Rel z X F W/\dP n z X F W E ab.tmps/\ba σ M Fz w z X F W/\U=seen X F:=⟨_,rfl⟩;obtain ⟨Ix,a0⟩:∃Ix:Code->(Nat->Prop)->(Nat->Prop)->World->Prop,Ix=λc F U W=>∃e E z X,c=UO e/\Q e E z/\σ.length<=z.length/\Rel z X F W/\dP n z X F W E ab.tmps/\ba σ M Fz w z X F W/\U=seen X F:=⟨_,rfl⟩;have ak:∀{z:ae}{X:Nat->Option Nat}{F:Nat->Prop}{W W':World}{E:AL}{tm:Array Value},(∀c:Nat,seen X F c∨c<w.heap.size->W'.heap[c]? = W.heap[c]?)->dP n z X F W E tm->dP n z X F W' E tm:=λO A'=>⟨A'.1,λt d ht=>let ⟨v,g1,g2⟩:=A'.2 t d ht;⟨v,g1,g2.tR λc G=>O c (.inl G)⟩⟩
   have fI:∀i,ua w.heap.size (I i):=λi=>by
    subst hI;refine ⟨λF U W ⟨E,z,X,_,Z,_⟩=>Z.none,λF U W ⟨E,z,X,_,_,_,_,e⟩ c G=>by rw[e];exact .inl G,λF U W ⟨E,z,X,_,Z,_,_,e⟩ c G=>Z.FP (by rw[e] at G;exact G),λF U W ⟨E,z,X,_,_,_,E',_⟩=>E'.size,λF U W W' ⟨E,z,X,hr,Z,A',E',e⟩ hs O ad=>?_,λF U W F' ⟨E,z,X,hr,Z,A',E',e⟩ ha hb=>?_⟩
    rotate_left
    ·rw[e] at hb ⊢;exact ⟨E,z,X,hr,Z.uG ha λc G=>(hb c G).imp id λ⟨q,r⟩=>⟨λb a5=>q (.inr ⟨b,a5⟩),r.2⟩,⟨A'.1,λt d ht=>let ⟨v,g1,g2⟩:=A'.2 t d ht;⟨v,g1,g2.uG ha⟩⟩,E'.uG ha λc G=>(hb c G).imp id λ⟨q,r⟩=>r.1,Dz ha⟩
    rw[e] at O;exact ⟨E,z,X,hr,Z.tR (λc G=>O c (.inl G)) hs,ak O A',E'.tR O hs ad,e⟩
   have b5:∀c,ua w.heap.size (Ix c):=λc=>by
    subst a0;refine ⟨λF U W ⟨x,E,z,X,_,_,_,Z,_⟩=>Z.none,λF U W ⟨x,E,z,X,_,_,_,_,_,_,e⟩ c G=>by rw[e];exact .inl G,λF U W ⟨x,E,z,X,_,_,_,Z,_,_,e⟩ c G=>Z.FP (by rw[e] at G;exact G),λF U W ⟨x,E,z,X,_,_,_,_,_,E',_⟩=>E'.size,λF U W W' ⟨x,E,z,X,hx,hq,an,Z,A',E',e⟩ hs O ad=>?_,λF U W F' ⟨x,E,z,X,hx,hq,an,Z,A',E',e⟩ ha hb=>?_⟩
    rotate_left
    ·rw[e] at hb ⊢;exact ⟨x,E,z,X,hx,hq,an,Z.uG ha λc G=>(hb c G).imp id λ⟨q,r⟩=>⟨λb a5=>q (.inr ⟨b,a5⟩),r.2⟩,⟨A'.1,λt d ht=>let ⟨v,g1,g2⟩:=A'.2 t d ht;⟨v,g1,g2.uG ha⟩⟩,E'.uG ha λc G=>(hb c G).imp id λ⟨q,r⟩=>r.1,Dz ha⟩
    rw[e] at O;exact ⟨x,E,z,X,hx,hq,an,Z.tR (λc G=>O c (.inl G)) hs,ak O A',E'.tR O hs ad,e⟩
   refine Vv (caps:=[[x]]) (items:=items) (F0:=Fz) (U0:=seen M Fz) bw eg it (by simpa using bh) I Ix fI b5 ?_ ?_ ?_ ?_ ?_
   ·
    intro i F U W hi;subst hI;obtain ⟨E,z,X,hr,Z,_,E',_⟩:=hi;refine ⟨by simp[b0],λk cs v hk hv=>?_⟩;have b6:k=0:=by have:=(d_.1 hk).1;simp at this;exact this
    subst b6;simp only[List.getElem?_cons_zero,aj] at hk;subst hk;obtain ⟨c,hM,rfl⟩:=((b1 v hv).mono E').tc (KY hr.cap.1 (sz:=1) rfl);obtain ⟨a6,T,hh,hl,b7⟩:=Z.row hM hr.cap.1;refine ⟨c,rfl,a6,T,hh,by simpa using hl,λj d u hd hu=>?_⟩;have b8:j=0:=by have:=(d_.1 hd).1;simp at this;exact this
    subst b8;simp only[List.getElem?_cons_zero,aj] at hd;subst hd;obtain ⟨g1,g2⟩:=b7 0 _ _ rfl hu;exact ⟨g1.oe,g2⟩
   ·subst hI;exact ⟨al,σ,M,by simpa using h,R,A,ba.refl R,rfl⟩
   ·
    intro l i ds F U W vs a7 hi bi;subst hI;obtain ⟨E,z,X,hr,Z,A',E',rfl⟩:=hi;have b9:=(d_.1 a7).1;have cg:items.drop i=ds::items.drop (i+1):=by rw[yB4 b9];simp only[yBP,Iq];have:=d_.1 a7;exact this.2
    rw[cg] at hr;obtain ⟨⟨c6,c7⟩,bk⟩:=hr;have ch:=bh ds (vB a7);have ck:vs.toList.length=ds.length:=by simpa using bi.1
    have A1:=dP.IP (ps:=pt.toList) (ds:=ds) (vs:=vs.toList) A' bu ch.symm ck λk d v g1 g2=>by have:=bi.2 k d v g1 (by simpa using g2);exact this.sub (λb ob hb=>by simp at hb) (λ_ _ h=>by simp at h) (λc h=>⟨h,rfl⟩) (λc a6 T fr h=>⟨a6,h,rfl⟩)
    have ez:(pt.zip vs).foldl (λt (p,v)=>t.setIfInBounds p v) ab.tmps=(pt.toList.zip vs.toList).foldl (λt (p,v)=>t.setIfInBounds p v) ab.tmps:=by rw[<-xAm,Array.toList_zip]
    rw[ez];refine (bk c1 h2 X F W { tmps:=_,defers:=[] } _ Z A1 λx1 cm σ1 a1 w1 M1 F1 co _ R1 cp E1 c8=>?_).2 h4.1 l 0;obtain ⟨rfl,hb⟩:=co;refine ⟨F1,seen M1 F1,E1.kept Dl.refl E1.fz,λc G=>R1.FP G,λw2 bl O ad=>?_⟩;have R2:=R1.tR (λc G=>O c (.inl G)) (Nat.le_of_eq bl);have cv:dP n σ1 M1 F1 w2 cm a1.tmps:=ak O cp;have Et:ba σ M Fz w σ1 M1 F1 w2:=(E'.trans E1 (by omega)).tR O (Nat.le_of_eq bl) ad;refine (hb c2 h3 M1 F1 w2 a1 _ R2 cv λx2 al2 au a3 w3 M3 F3 a8 _ R3 da E3 c9=>?_).2 h4.2 l 0;have Ef:ba σ M Fz w au M3 F3 w3:=Et.trans E3 (by omega);have Vm:∀{d:D}{v:Value},V z X F W d v->V au M3 F3 w3 d v:=λhv=>by have:=hv.mono E1;exact (this.tR (λc G=>O c (.inl G))).mono E3
    have a9:dP n au M3 F3 w3 E ab.tmps:=⟨A'.1,λt d ht=>let ⟨v,g1,g2⟩:=A'.2 t d ht;⟨v,g1,Vm g2⟩⟩;have a2:∀c:Nat,F c->F3 c/\w3.heap[c]? = w2.heap[c]?:=λc G=>E3.fz c (E1.fz c G).1;cases x2 with
    |normal=>obtain ⟨c0,c3,hw,bb⟩:=a8;obtain ⟨M4,F4,R4,A4,W4,E4⟩:=hw.2 n M3 F3 w3 ab.tmps R3 a9;have c4:=E4 σ M Fz w R Ef (cn _);have c5:∀c:Nat,F c->F4 c:=λc G=>W4.2.2 c (a2 c G).1;exact ⟨F4,seen M4 F4,E3.kept W4 λc G=>⟨c5 c G,(a2 c G).2⟩,c0,c3,M4,bb,R4,A4,c4,rfl⟩
    |exit j=>exact HO (by simp) (E3.kept Dl.refl a2) (by subst a0;exact ⟨.exit j,E,au,M3,rfl,a8,by omega,R3,a9,Ef,rfl⟩)
    |ret=>exact HO (by simp) (E3.kept Dl.refl a2) (by subst a0;exact ⟨.ret,E,au,M3,rfl,a8,by omega,R3,a9,Ef,rfl⟩)
   ·intro D F U W hD bd aa be hi;subst hI;obtain ⟨E,z,X,hr,Z,A',E',rfl⟩:=hi;rw[List.drop_length] at hr;unfold seen at aa;simp only[not_or,not_exists] at aa;exact hK .normal E z _ W X F hr.2 ⟨[D],rfl,by simp,λD' ax=>by simp only[nL] at ax;subst ax;exact ⟨hD,bd,aa.2,aa.1,be⟩⟩ Z A' E' (Nat.le_of_eq hr.1.2.symm)
   ·intro D c F U W hD bd aa be hi;subst a0;obtain ⟨e,E,z,X,rfl,hq,an,Z,A',E',rfl⟩:=hi;unfold seen at aa;simp only[not_or,not_exists] at aa;exact wp_jmp (hK e E z _ W X F hq ⟨[D],rfl,by simp,λD' ax=>by simp only[nL] at ax;subst ax;exact ⟨hD,bd,aa.2,aa.1,be⟩⟩ Z A' E' an)
  ·cases e
 |region id db bt=>
  simp only[bg] at G;split at G
  ·cases bt with
   |false=>simp at G
   |true=>simp only[if_true] at G;split at G <;> simp at G
  ·simp at G
 |seq c1 c2=>simp only[bg] at G;split at G <;> simp at G
 |cond o c1 c2=>simp only[bg] at G;split at G <;> simp at G
 |scope b=>simp only[bg,bU] at G;obtain ⟨a1,_,e1⟩:=G;rcases Hn a1 with ⟨l,r,_,e⟩ | e <;> rw[e] at e1 <;> simp at e1
 |_=>simp[bg] at G
end
end Go.Abs
end
section
namespace Go.Abs
noncomputable section
variable[Gl][Y:Ty]
section
variable{P:Program}{n:Nat}{al:AL}{σ:ae}{Q:kT->AL->ae->Prop}{ac:aH}
theorem Sem.frzR{t b i:Nat}{l:List (TT i)}(hr:lk t al=some (OS (ar i) b l.length))(hb:σ[b]? = some (OB (enc i) l))(h:Sem P ac n ((t,.c (.ca false (l.map (enc i))))::al) (σ.set b (OB (enc i) (l++[Hf i]))) Q):Sem P ac n al σ Q:=by
 intro c X M Fz w a K R A hK;have ab:=NN i l;have iM:∀(x:Nat) z,σ[x]? = some z->∃u,(σ.set b (OB (enc i) (l++[Hf i])))[x]? = some u/\z.sz<=u.sz/\(u.sz=z.sz->x≠b/\u=z):=λx z E=>by
  by_cases e:x=b
  ·subst e;rw[hb] at E;simp only[aj] at E;subst E;exact ⟨_,EI hb,yBR ab,λe=>by omega⟩
  ·exact ⟨z,by rw[Ru e];exact E,cn _,λ_=>⟨e,rfl⟩⟩
 have conv:∀{d:D}{v:Value},V σ M Fz w d v->V (σ.set b (OB (enc i) (l++[Hf i]))) (λx=>if x=b then none else M x) (λc=>Fz c∨M b=some c) w d v:=by
  intro d v G;induction G with
  |c h=>exact .c (h.mono λc X=>⟨.inl X,rfl⟩)
  |any v=>exact .any v
  |ptr a z h ad G=>
   obtain ⟨u,h1,h2,O⟩:=iM _ _ h;exact .ptr a u h1 (by omega) (λhe=>by obtain ⟨U,rfl⟩:=O (by omega);rw[if_neg U];exact G he)
  |sl a m cap af z h ad G=>
   obtain ⟨u,h1,h2,O⟩:=iM _ _ h;exact .sl a m cap af u h1 (by omega) (λhe=>by obtain ⟨U,rfl⟩:=O (by omega);rw[if_neg U];exact G he)
  |mp c z h G=>
   obtain ⟨u,h1,h2,O⟩:=iM _ _ h;exact .mp c u h1 (λhe=>by obtain ⟨U,rfl⟩:=O (by omega);rw[if_neg U];exact G he)
  |fn vs ws h1 h2 G hw ak an=>exact .fn vs ws h1 h2 ak an
  |agg vs h1 G ih=>exact .agg vs h1 ih
  |aI vs h1 G ih=>exact .aI vs h1 ih
 have ax:∀{z o},bE σ M Fz w z o->bE (σ.set b (OB (enc i) (l++[Hf i]))) (λx=>if x=b then none else M x) (λc=>Fz c∨M b=some c) w z o:=λ{z o} U=>by
  cases z with
  |cells cs=>obtain ⟨W,T,ho,hl,G⟩:=U;exact ⟨W,T,ho,hl,λi d v x y=>⟨conv (G i d v x y).1,(G i d v x y).2⟩⟩
  |map es a0=>obtain ⟨W,ho,hl,G⟩:=U;exact ⟨W,ho,hl,λi k d n e x y=>let ⟨p,q,r⟩:=G i k d n e x y;⟨p,q,conv r⟩⟩
  |gone n=>exact U.elim
 have R1:Rel (σ.set b (OB (enc i) (l++[Hf i]))) (λx=>if x=b then none else M x) (λc=>Fz c∨M b=some c) w:=by
  refine ⟨λx c E=>?_,λx x' c E Z=>?_,λc X=>X.elim (R.fz c) λh=>(R.lt h).2,Gl.mono (λc h=>⟨.inl h,rfl⟩) R.gl⟩
  ·split at E
   ·simp at E
   rename_i aa;obtain ⟨h1,z,o,h2,O,U⟩:=R.blk x c E;exact ⟨λhf=>hf.elim h1 λhf=>aa (R.inj _ _ c E hf),z,o,by rw[Ru aa];exact h2,O,ax U⟩
  ·split at E
   ·simp at E
   split at Z
   ·simp at Z
   exact R.inj _ _ c E Z
 have E1:ba σ M Fz w (σ.set b (OB (enc i) (l++[Hf i]))) (λx=>if x=b then none else M x) (λc=>Fz c∨M b=some c) w:={
  size:=cn _
  frame:=λ_ _ _=>rfl
  ja:=λx c h=>by
   split at h
   ·simp at h
   exact .inl ⟨x,h⟩
  fz:=λc h=>⟨.inl h,rfl⟩
  lD:=λc h=>h.elim .inl λh=>.inr (.inl ⟨b,h⟩)
  nF:=λc W T fr h=>⟨W,h,rfl⟩
  keep:=λx z h=>by obtain ⟨u,h1,h2,O⟩:=iM x z h;exact ⟨u,h1,h2,λe=>by rw[if_neg (O e).1]⟩
  out:=⟨rfl,rfl,rfl⟩ }
 have N0:Rn (Y:=Y) 0 σ [] id (λx=>x=b):=⟨cn _,λi hi=>by omega,λi j hi=>by simp at hi,λi hi=>by simp at hi,λx E=>by subst E;exact ⟨i,l,hb⟩,λi hi=>by simp at hi⟩
 have A1:dP n (σ.set b (OB (enc i) (l++[Hf i]))) (λx=>if x=b then none else M x) (λc=>Fz c∨M b=some c) w ((t,.c (.ca false (l.map (enc i))))::al) a.tmps:=by
  refine ⟨A.1,λs d hs=>?_⟩;simp only[lk] at hs;split at hs
  ·rename_i a1;have:=cr a1;subst this;simp only[aj] at hs;subst hs;obtain ⟨v,h1,h2⟩:=A.2 _ _ hr;have O:=(cO.ca N0 rfl hb M Fz w v R h2).oe;exact ⟨v,h1,.c (O.mono λc X=>⟨X.imp id λ⟨x,E,h⟩=>E▸h,rfl⟩)⟩
  ·obtain ⟨v,h1,h2⟩:=A.2 s d hs;exact ⟨v,h1,conv h2⟩
 exact h c X _ _ w a K R1 A1 λx a2 σ' a' w' M' Fz' hQ hd R' A' E' hl=>hK x a2 σ' a' w' M' Fz' hQ hd R' A' (E1.trans E' (by simp)) (by simpa using hl)
end
theorem Yx{P:Program}{n:Nat}{ac:aH}{Q:kT->AL->ae->Prop}:∀(os:List (Nat×Nat))(al a:TA)(σ σ':TH)(alD:AL)(σD:ae),S_ os al σ=some (a,σ')->Ref al σ alD σD ->
  (∃pre,a=pre++al)/\Ext σ σ'/\((∀f g,Ref a σ' f g->Sem P ac n f g Q)->Sem P ac n alD σD Q):=by
 intro os;induction os with
 |nil=>intro al a σ σ' alD σD h k;simp only[S_,aj,aM] at h;obtain ⟨rfl,rfl⟩:=h;exact ⟨⟨[],rfl⟩,Ext.refl σ,λhs=>hs alD σD k⟩
 |cons o os ih=>
  intro al a σ σ' alD σD h k;obtain ⟨t,X⟩:=o;simp only[S_] at h;split at h
  ·rename_i i b v m G;split at h
   ·rename_i j l q u y;split at h
    ·rename_i z;have z:=cr z;subst z;obtain ⟨p,K⟩:=iP G;obtain ⟨d,L,N,O⟩:=k.rg t _ p K;have:=RT.c1 (by simp) N;subst this;obtain ⟨blk,A,R⟩:=O;rw[y] at A;simp only[aj] at A;subst A;obtain ⟨rfl,rfl⟩:=(R _ _ _ _ rfl).2 rfl;have x:BE (.row j l q u) (.row j (l++[Hf j]) (q+1) (u+1)):=⟨_,q+1,u+1,rfl,by omega,by omega,λe=>by omega,λe=>by omega⟩;have E:=Ext.set y x;have S:RH (σ.set b (.row j (l++[Hf j]) (q+1) (u+1))) (σD.set b (OB (enc j) (l++[Hf j]))):=k.hh.set y x rfl (λw Z e=>by simp at e);have T:Ref ((t,.v (.c (.sl j l)))::al) (σ.set b (.row j (l++[Hf j]) (q+1) (u+1))) ((t,.c (.ca false (l.map (enc j))))::alD) (σD.set b (OB (enc j) (l++[Hf j]))):=k.set S E (Or.inr rfl) True.intro;obtain ⟨⟨pre,e1⟩,U,W⟩:=ih _ _ _ _ _ _ h T;exact ⟨⟨pre++[(t,.v (.c (.sl j l)))],by simp_all⟩,Ext.trans k.hh E U,λhs=>Sem.frzR L (k.hh.row y) (W hs)⟩
    ·simp at h
   ·simp at h
  ·simp at h
theorem VJ{R:Type}{a b:Nat}{k:Option R}{r:R}(h:Kt a b k=some r):a=b/\k=some r:=by
 unfold Kt at h;split at h
 ·rename_i e;exact ⟨cr e,h⟩
 ·simp at h
theorem Ze{R:Type}{k:TA->Option R}{r:R}{σ:TH}{σD:ae}:∀(hs:List (Nat×Nat))(al:TA)(alD:AL),Uq hs al σ k=some r->Ref al σ alD σD ->
  ∃f a,k f=some r/\Ref f σ a σD/\(∃pre,f=pre++al)/\∀t d,lk t a=some d->lk t alD=some d:=by
 intro hs;induction hs with
 |nil=>intro al alD h g;exact ⟨al,alD,h,g,⟨[],rfl⟩,λ_ _ h=>h⟩
 |cons o hs ih=>
  intro al alD h g;obtain ⟨t,W⟩:=o;simp only[Uq] at h;split at h
  ·rename_i i b v m y;split at h
   ·rename_i j l x X z;split at h
    ·rename_i q;have q:=cr q;subst q;obtain ⟨A,E⟩:=VJ h;clear h;subst A;obtain ⟨p,G⟩:=iP y;obtain ⟨d,Z,K,_⟩:=g.rg t _ p G;have:=RT.c1 (by simp) K;subst this;have L:Ref ((t,.v (.c (.own j b x l.length)))::al) σ ((t,OS (ar j) b l.length)::alD) σD:=g.set g.hh (Ext.refl σ) (Or.inr rfl) ⟨_,z,λj' l' N O e=>by grind⟩;obtain ⟨f,a,S,T,⟨pre,g3⟩,U⟩:=ih _ _ E L;refine ⟨f,a,S,T,⟨pre++[(t,.v (.c (.own j b x l.length)))],by simp_all⟩,λs d hs=>?_⟩;have:=U s d hs;simp only[lk] at this;split at this
     ·rename_i u;have:=cr u
      grind [TC.er]
     ·exact this
    ·simp at h
   ·simp at h
  ·simp at h
theorem nX.lks{m:Nat}{al i:AL}{σ:ae}(hm:m<=σ.length)(h:∀t d,lk t i=some d->lk t al=some d):nX m al σ i σ:=⟨hm,λn M' Fz' w' j R A=>⟨M',Fz',R,⟨A.1,λt d o=>A.2 t d (h t d o)⟩,Dl.refl,λσ M Fz w _ E _=>E⟩⟩
end
end Go.Abs
end
section
namespace Go.Abs
noncomputable section
variable[Gl][Y:Ty]
def ns{R:Type}(al:TA)(σ:TH)(K:KC R)(r:R):kT->AL->ae->Prop:=λx b d=>∃a σ',Ref a σ' b d/\(∃pre,a=pre++al)/\Ext σ σ'/\K x a σ'=some r
theorem kl{hs:List (Nat×Nat)}{md:List Nat}{al pre:TA}{σ:TH}(h:FK hs md al σ (pre++al)=true):∀y∈pre,y.1∈md∨∃b i l a d,(y.1,b)∈hs/\σ[b]? = some (.row i l a d):=by
 intro y f;unfold FK at h;rw[Jw,Nat.add_sub_cancel,List.take_left,fE] at h;have:=h y f;rw[dZ,List.any_eq_true,List.any_eq_true] at this;rcases this with ⟨z,g,e⟩ | ⟨z,g,e⟩
 ·simp_all
 ·simp only[bp] at e
  grind [Nat.eq_of_beq_eq_true,rowAt]
theorem jL{h:JH}{md:List Nat}{al a:TA}{σ σ1:TH}{x:nO h.pl}(e:Jo h md al σ a σ1=some x):FK h.hs md al σ a=true/\dD (h.pl++Hc h.zs) 0 σ σ1=true/\SJ a σ1 h.hs=true/\Ud σ.length σ1 h.zs=true/\Iu a σ1 h.pl=some x:=by
 unfold Jo at e
 grind
theorem rW{σ au:TH}(q:Ext σ au)(x:au.length=σ.length){b i d f:Nat}{l:List (TT i)}(h:au[b]? = some (.row i l d f)):∃i l d f,σ[b]? = some (.row i l d f):=by
 have a:b<σ.length:=by grind
 obtain ⟨o,k,g⟩:=q b _ (cT a);rw[h] at k;simp only[aj] at k;subst k;have u:σ[b]? = some σ[b]:=cT a;rw[u];cases p:σ[b] with
 |row i l d f=>simp_all
 |cells w y=>rw[p] at g;obtain ⟨_,_,e,_⟩:=g;simp at e
 |mp j st l v=>rw[p] at g;obtain ⟨_,_,_,_,e,_⟩:=g;simp at e
theorem kD(h:JH)(md:List Nat)(al:TA)(σ:TH)(x:nO h.pl):∃pre,cF h md al σ x=pre++al/\∀y∈pre,(∃c,Pl.r y.1 c∈h.pl)∨(∃b i l g j,(y.1,b)∈h.hs/\(fC h md al σ x)[b]? = some (.row i l g j))∨y.1∈md:=by
 obtain ⟨d,v,o,_⟩:=DE md al;obtain ⟨e,z,k,_⟩:=Jr (pE h.pl x σ) h.hs (DI md al);obtain ⟨f,A,p⟩:=DJ h.pl x (LY (pE h.pl x σ) h.hs (DI md al));refine ⟨f++(e++d),by grind [cF],λy a=>?_⟩;rcases mw.1 a with a | a
 ·grind
 ·rcases mw.1 a with a | a
  ·obtain ⟨b,i,l,g,j,q,u,_⟩:=k y a;exact .inr (.inl ⟨b,i,l,g,j,q,((IY h.zs (pE h.pl x σ)).row b _ _ _ _).1 u⟩)
  grind
theorem xE{h:JH}{md:List Nat}{al:TA}{σ:TH}{x:nO h.pl}(f:Ext σ (fC h md al σ x))(g:(fC h md al σ x).length=σ.length){t:Nat}{q:RV×Nat}(j:t∉md)(k:∀c,Pl.r t c∉h.pl)
  (o:∀b,(t,b)∈h.hs->∀i l a d,σ[b]?≠some (.row i l a d)) (p:dR t al=some q):dR t (cF h md al σ x)=some q:=by
 obtain ⟨pre,e,u⟩:=kD h md al σ x
 grind [kO,rW]
theorem Sem.ownC{P:Program}{n:Nat}{ac:aH}{Q:kT->AL->ae->Prop}{al:AL}{σ:ae}(b j ar:Nat)(cs:List D)(hb:σ[b]? = some (.cells cs))(hj:cs[j]? = some (.c (.lit (.slice none 0 0))))(h:Sem P ac n al (σ.set b (.cells (cs.set j (.sl σ.length 0 0 ar 0)))++[.cells []]) Q):Sem P ac n al σ Q:=by
 intro c hc M Fz w a K R A hK;have af:=(d_.1 hb).1;have iM:∀(i:Nat) E,σ[i]? = some E->∃G,(σ.set b (.cells (cs.set j (.sl σ.length 0 0 ar 0)))++[.cells []])[i]? = some G/\G.sz=E.sz:=λi E hi=>by
  have aa:=(d_.1 hi).1;rw[DK (by simp_all)];by_cases e:i=b
  ·grind [Ob.sz]
  grind
 have z:∀{d v},V σ M Fz w d v->V (σ.set b (.cells (cs.set j (.sl σ.length 0 0 ar 0)))++[.cells []]) M Fz w d v:=λh=>h.sub iM (λ_ _ h=>h) (λc h=>⟨h,rfl⟩) (λc u T fr h=>⟨u,h,rfl⟩);have ak:∀{E o},bE σ M Fz w E o->bE (σ.set b (.cells (cs.set j (.sl σ.length 0 0 ar 0)))++[.cells []]) M Fz w E o:=λ{E o} W=>by
  cases E with
  |cells cs=>obtain ⟨u,T,X,Z,U⟩:=W;exact ⟨u,T,X,Z,λi d v x y=>⟨z (U i d v x y).1,(U i d v x y).2⟩⟩
  |map es ab=>obtain ⟨u,X,Z,U⟩:=W;exact ⟨u,X,Z,λi k d n e x y=>let ⟨p,q,r⟩:=U i k d n e x y;⟨p,q,z r⟩⟩
  |gone n=>exact W.elim
 have R1:Rel (σ.set b (.cells (cs.set j (.sl σ.length 0 0 ar 0)))++[.cells []]) M Fz w:=by
  refine ⟨λb' c h=>?_,R.inj,R.fz,R.gl⟩;obtain ⟨h1,E,o,O,h3,W⟩:=R.blk b' c h;have aa:=(d_.1 O).1;by_cases e:b'=b
  ·subst e;rw[hb] at O;simp only[aj] at O;subst O;refine ⟨h1,_,o,by rw[DK (by simp_all)];exact EI hb,h3,?_⟩;obtain ⟨u,T,X,Z,U⟩:=W;refine ⟨u,T,X,by simp_all,λi d v x y=>?_⟩;by_cases ej:j=i
   ·subst ej;rw[yB2,if_pos rfl] at x;split at x
    ·simp only[aj] at x;subst x;obtain ⟨v1,v2⟩:=U j _ v hj y;refine ⟨?_,v2⟩;rw[v1.bI];exact .sl none 0 0 (by simp) (.cells []) (by simp_all) (by omega) (λ_=>.inl ⟨rfl,rfl,rfl,rfl,rfl,rfl⟩)
    simp_all
   grind
  grind
 have E1:ba σ M Fz w (σ.set b (.cells (cs.set j (.sl σ.length 0 0 ar 0)))++[.cells []]) M Fz w:={
  size:=cn _
  frame:=λ_ _ _=>rfl
  ja:=λb c h=>.inl ⟨b,h⟩
  fz:=λc h=>⟨h,rfl⟩
  lD:=λc h=>.inl h
  nF:=λc u T fr h=>⟨u,h,rfl⟩
  keep:=λb E h=>let ⟨G,h1,O⟩:=iM b E h;⟨G,h1,Nat.le_of_eq O.symm,λ_=>rfl⟩
  out:=⟨rfl,rfl,rfl⟩ }
 have A1:dP n (σ.set b (.cells (cs.set j (.sl σ.length 0 0 ar 0)))++[.cells []]) M Fz w al a.tmps:=⟨A.1,λs d hs=>let ⟨v,h1,O⟩:=A.2 s d hs;⟨v,h1,z O⟩⟩;exact h c hc M Fz w a K R1 A1 λx ad σ' a' w' M' Fz' hQ hd R' A' E' Z=>hK x ad σ' a' w' M' Fz' hQ hd R' A' (E1.trans E' (by simp)) (by grind)
theorem GN{P:Program}{n:Nat}{ac:aH}{Q:kT->AL->ae->Prop}:∀(os:List (Nat×Nat))(al f:TA)(σ σ':TH)(alD:AL)(σD:ae),Dh os al σ=some (f,σ')->Ref al σ alD σD ->
  (∃pre,f=pre++al)/\Ext σ σ'/\((∀y z,Ref f σ' y z->Sem P ac n y z Q)->Sem P ac n alD σD Q):=by
 intro os;induction os with
 |nil=>intro al f σ σ' alD σD h a;simp only[Dh,aj,aM] at h;obtain ⟨rfl,rfl⟩:=h;exact ⟨⟨[],rfl⟩,Ext.refl σ,λhs=>hs alD σD a⟩
 |cons o os ih=>
  intro al f σ σ' alD σD h a;obtain ⟨t,i⟩:=o;simp only[Dh] at h;split at h
  ·
   generalize (t-1048576) / 1024=b at h;generalize (t-1048576) % 1024=j at h;split at h
   ·rename_i w A G;split at h
    ·rename_i v0 hj;obtain ⟨ds,hd,_,_,X⟩:=a.hh.cells G;have aa:ds[j]? = some (.c (.lit (.slice none 0 0))):=by rw[X,gP,hj];rfl
     have R:BE (.cells w A) (.cells (w+1) (A.set j (w+1,.own i σ.length 0 0))):=⟨w+1,_,rfl,by omega,by simp,λk v x v1 K e N=>by grind⟩
     have K:Ext σ (σ.set b (.cells (w+1) (A.set j (w+1,.own i σ.length 0 0)))++[.row i [] 0 0]):=λg q e=>by
      obtain ⟨Z,N,O⟩:=Ext.set G R g q e
      grind
     have S:Ref al (σ.set b (.cells (w+1) (A.set j (w+1,.own i σ.length 0 0)))++[.row i [] 0 0]) alD (σD.set b (.cells (ds.set j (.sl σD.length 0 0 (ar i) 0)))++[.cells []]):=by
      refine ⟨⟨by simp[a.hh.len],λg q e=>?_,λg w' T e p E=>?_⟩,λt x p h=>?_⟩
      ·rcases qG g σ.length with u | u
       ·rw[DK (by simp_all)] at e;rw[DK (by rw[yBB,a.hh.len];exact u)];by_cases L:g=b
        ·subst L;rw[EI G] at e;simp only[aj] at e;subst e;refine ⟨_,EI hd,?_⟩;show _=TB.er _;simp only[TB.er,Ob.cells.injEq];rw[List.map_set,X,a.hh.len];simp[TC.er,OS]
        ·rw[Ru L] at e ⊢;exact a.hh.hp g q e
       ·rw[KE (by simp_all),yBB] at e;rw[KE (by rw[yBB,a.hh.len];exact u),yBB,a.hh.len];have:g-σ.length=0:=by grind
        rw[this] at e ⊢;simp only[List.getElem?_cons_zero,aj] at e;subst e;exact ⟨_,rfl,rfl⟩
      ·rcases qG g σ.length with u | u
       ·rw[DK (by simp_all)] at e;by_cases L:g=b
        ·subst L;rw[EI G] at e;simp only[aj,TB.cells.injEq] at e;obtain ⟨rfl,rfl⟩:=e;rcases yBY E with E | rfl
         ·obtain ⟨U,g2⟩:=a.hh.hg g w A G p E;exact ⟨U.mono K,by omega⟩
         ·refine ⟨⟨.row i [] 0 0,?_,λj l lv cv e=>?_⟩,cn _⟩
          ·simp_all
          grind
        ·rw[Ru L] at e;obtain ⟨U,g2⟩:=a.hh.hg g w' T e p E;exact ⟨U.mono K,g2⟩
       grind
      ·obtain ⟨d,u,W,h3⟩:=a.rg t x p h;exact ⟨d,u,W,h3.mono K []⟩
     obtain ⟨⟨pre,N⟩,O,e3⟩:=ih _ _ _ _ _ _ h S;refine ⟨⟨pre,N⟩,Ext.trans a.hh K O,λhs=>?_⟩
     grind [Sem.ownC]
    ·grind
    simp_all
   simp_all
  split at h
  ·rename_i ht;obtain ⟨p,E⟩:=iP ht;obtain ⟨d,u,W,_⟩:=a.rg t _ p E;have:=RT.c1 (by simp) W;subst this;have S:Ref ((t,.v (.c (.own i σ.length 0 0)))::al) (σ++[.row i [] 0 0]) ((t,OS (ar i) σD.length 0)::alD) (σD++[.cells []]):=
    a.set (a.hh.push (blk:=.row i [] 0 0) (ob:=.cells []) rfl (λw A e=>by simp at e)) (Ext.push σ _) (Or.inr (by rw[a.hh.len];rfl)) (ow (b:=0) rfl)
   obtain ⟨⟨pre,N⟩,O,e3⟩:=ih _ _ _ _ _ _ h S;refine ⟨⟨pre++[(t,.v (.c (.own i σ.length 0 0)))],by simp_all⟩,Ext.trans a.hh (Ext.push σ _) O,λhs=>?_⟩;exact Sem.own t (ar i) u (d:=OS (ar i) σD.length 0) (by simp[OS]) rfl (e3 hs)
  ·grind
  simp_all
theorem Sem.drwCQ{P:Program}{n:Nat}{al:AL}{σ:ae}{Q:kT->AL->ae->Prop}{orc:fA}{os:List aD}{k:Nat}{i:List Nat}{p:Nat}(j:P.follows .mixedOrders=true)(O:lP P orc)
  (h:bK P orc (dJ os) os n al σ λu σ' o=>(dQ i o&&mS i p (dJ os) os.length&&Nat.ble p (dJ os))=true/\Q .normal u σ'):Sem P (.D_ os i k p) n al σ Q:=by
 obtain ⟨G,σ1,o,h,hp,U⟩:=h;intro c W M Fz w a K R A X;obtain ⟨e',Z,h2⟩:=h _ A.cK.2;have aa:∀m r,iV P orc os i p m (uA n al) σ=some r->r=(e',σ1,o.flatMap (·.wr)):=by
  intro m r z;unfold iV at z;split at z
  ·rename_i e2 au ab E;have:=Ju _ _ _ _ _ _ _ E Z
   simp_all
  simp_all
 have E:iV P orc os i p (dJ os) (uA n al) σ=some (e',σ1,o.flatMap (·.wr)):=by
  unfold iV
  simp_all
 have h4:je P orc 1 (.D_ os i k p) (uA n al) σ []=some (.normal,e',σ1,o.flatMap (·.wr)++[]):=by grind [je]
 have:Sem P (.D_ os i k p) n al σ Q:=Sem.AH j O (k:=1) (wr:=[]) (e:=uA n al) (e':=e') (x:=.normal) (σ':=σ1) h4 rfl h2 U;exact this c W M Fz w a K R A X
theorem TL(g:Ko)(cW:g.P.follows .mixedOrders=true)(hT:ed g.P g.S)(hI:UM g){R:Type}:∀(ac:aH)(q:Nat)(al:TA)(σ:TH)(K:KC R)(r:R)(alD:AL)(σD:ae),tC g ac q al σ K=some r->Ref al σ alD σD ->
  Sem g.P ac g.n alD σD (ns al σ K r):=by
 have O:si g.P (zM (Er g.S)):=kS (Mb hT);intro ac;induction ac with
 |skip=>intro q al σ K r alD σD h U;exact Sem.skip cW ⟨al,σ,U,⟨[],rfl⟩,Ext.refl σ,h⟩
 |exit id=>intro q al σ K r alD σD h U;exact Sem.exit cW ⟨al,σ,U,⟨[],rfl⟩,Ext.refl σ,h⟩
 |ret=>intro q al σ K r alD σD h U;exact Sem.ret cW ⟨al,σ,U,⟨[],rfl⟩,Ext.refl σ,h⟩
 |stuck=>grind [tC]
 |Wi l=>intro q al σ K r alD σD h U;exact Sem.Wi ⟨al,σ,U,⟨[],rfl⟩,Ext.refl σ,h⟩
 |Rl l a rr bd b3=>
  intro q al σ K r alD σD h U;have ev:∀{i:Nat},Nat.beq (i % 2) 0=true->i % 2=0:=λh=>cr h;simp only[tC] at h;split at h
  ·
   refine Sem.Rl 1 ((bd _ _ _ _ _ alD σD h U).dE λex bk a2 hP=>.inl ?_);obtain ⟨T,σ1,W,⟨pre,e1⟩,X,N⟩:=hP;cases ex with
   |normal=>exact ⟨T,σ1,W,⟨pre,e1⟩,X,N⟩
   |ret=>exact ⟨T,σ1,W,⟨pre,e1⟩,X,N⟩
   |exit i=>
    dsimp only at N;split at N
    ·rename_i hi;refine .inl ⟨cr hi,bk,a2,nX.refl (by rw[U.hh.len,W.hh.len];exact X.len),QW.succ ((b3 _ _ _ _ _ bk a2 N W).dE λex u E hP=>.inl ?_)⟩;obtain ⟨al2,au,g1,⟨ab,e2⟩,g3,g4⟩:=hP;have fin:∀{ex:kT},K ex al2 au=some r->ns al σ K r ex u E:=λg4=>⟨al2,au,g1,⟨ab++pre,by simp_all⟩,Ext.trans U.hh X g3,g4⟩;cases ex with
     |normal=>exact fin g4
     |ret=>exact fin g4
     |exit i=>
      dsimp only at g4;split at g4
      ·rename_i he;exact .inr ⟨ev he,fin g4⟩
      simp_all
    ·split at N
     ·rename_i he;exact .inr ⟨ev he,T,σ1,W,⟨pre,e1⟩,X,N⟩
     simp_all
  ·
   rename_i S hJ;have be:∀(k:Nat)(x:nO S.pl)(u:AL)(E:ae),Ext σ (fC S (cj a++cj rr) al σ x)->HS (S.pl++Hc S.zs) σ (fC S (cj a++cj rr) al σ x)->(fC S (cj a++cj rr) al σ x).length=σ.length->Ref (cF S (cj a++cj rr) al σ x) (fC S (cj a++cj rr) al σ x) u E ->
     bo (λrec x=>tC g rr (2 * q+1) (cF S (cj a++cj rr) al σ x) (fC S (cj a++cj rr) al σ x) λex T σ1=>match ex with
      |.exit i => match Nat.beq i (2 * l + 1) with
       |true=>match zu S (cj a++cj rr) (cF S (cj a++cj rr) al σ x) (fC S (cj a++cj rr) al σ x) T σ1 with | some x'=>rec x' | none=>none
       |false=>match Nat.beq (i % 2) 0 with | true=>K (.exit i) T σ1 | false=>none
      |ex=>K ex T σ1) k x=some r->QW g.P rr l k g.n u E (ns al σ K r):=by
    intro k;induction k with
    |zero=>grind [bo]
    |succ k bh=>
     intro x u E x1 x2 x3 x4 h;have B:=b3 _ _ _ _ _ u E (show tC g rr (2 * q+1) (cF S (cj a++cj rr) al σ x) (fC S (cj a++cj rr) al σ x) _=some r from h) x4;refine QW.succ (B.dE λex a5 a6 hP=>.inl ?_);obtain ⟨T,σ1,W,⟨pre,rfl⟩,X,N⟩:=hP;obtain ⟨ad,eA,_⟩:=kD S (cj a++cj rr) al σ x;have fin:∀{ex:kT},K ex (pre++cF S (cj a++cj rr) al σ x) σ1=some r->ns al σ K r ex a5 a6:=λN=>⟨_,σ1,W,⟨pre++ad,by simp_all⟩,Ext.trans U.hh x1 X,N⟩;cases ex with
     |normal=>exact fin N
     |ret=>exact fin N
     |exit i=>
      dsimp only at N;split at N
      ·rename_i hi;split at N
       ·rename_i xv hx;obtain ⟨ab,au,bl,bt,w1,bu,bv,hx⟩:=tj x4 W X hx;obtain ⟨d1,d2,d3,d5,d4⟩:=jL hx;have a0:=kl d1;obtain ⟨f1,f2,f3,ax,ak,f4,f5⟩:=j_ (md:=cj a++cj rr) U bu (λt q h=>by rw[eA,<-PI];exact tA h)
         (λt q m1 m2 m3 h=>kO (λy hy e=>(a0 y hy).elim (λz=>m1 (e▸z)) λ⟨b,i,l,lv,cv,z1,z2⟩=>let ⟨i,l,lv,cv,z3⟩:=rW x1 x3 z2;m3 b (e▸z1) i l lv cv z3) (xE x1 x3 m1 m2 m3 h)) (x2.trans (TY x4.hh d2 bv)) d3 (by simp_all) d4
        refine .inl ⟨cr hi,ax,ak,?_,bh xv ax ak f1 f2 f3 f5 N⟩;rw[x4.hh.len,x3];rw[x3] at w1;exact w1.trans f4
       simp_all
      ·split at N
       ·rename_i he;exact .inr ⟨ev he,fin N⟩
       simp_all
   refine Sem.Rl g.N ((bd _ _ _ _ _ alD σD h U).dE λex bk a2 hP=>.inl ?_);obtain ⟨T,σ1,W,⟨pre,rfl⟩,X,N⟩:=hP;have fin:∀{ex:kT},K ex (pre++al) σ1=some r->ns al σ K r ex bk a2:=λN=>⟨_,σ1,W,⟨pre,rfl⟩,X,N⟩;cases ex with
   |normal=>exact fin N
   |ret=>exact fin N
   |exit i=>
    dsimp only at N;split at N
    ·rename_i hi;split at N
     ·grind
     ·rename_i x0 hx;obtain ⟨ab,au,bl,bt,w1,bu,bv,hx⟩:=tj U W X hx;obtain ⟨d1,d2,d3,d5,d4⟩:=jL hx;have a0:=kl d1;obtain ⟨f1,f2,f3,ax,ak,f4,f5⟩:=j_ (md:=cj a++cj rr) U bu (λt q h=>tA h)
       (λt q m1 _ m3 h=>kO (λy hy e=>(a0 y hy).elim (λz=>m1 (e▸z)) λ⟨b,i,l,lv,cv,z1,z2⟩=>m3 b (e▸z1) i l lv cv z2) h) (TY U.hh d2 bv) d3 d5 d4
      refine .inl ⟨cr hi,ax,ak,?_,be g.N x0 ax ak f1 f2 f3 f5 N⟩;rw[U.hh.len];exact w1.trans f4
    ·split at N
     ·rename_i he;exact .inr ⟨ev he,fin N⟩
     simp_all
 |zI os=>
  intro q al σ K r alD σD h U;simp only[tC] at h;split at h
  ·split at h
   ·rename_i hU;obtain ⟨oz,o1,_,o3⟩:=tD g q O hI 1000 0 os [] al σ _ r alD σD h (tf hU) U (λp b hk=>by grind [yA]) (λp b hk=>by grind [yA]);refine Sem.oB cW o1 (o3.mono λa s i hA=>?_);obtain ⟨an,σ',is,W,h2,X,_,N⟩:=hA;exact ⟨an,σ',W,h2,X,N⟩
   simp_all
  ·rename_i S hJ;split at h
   ·rename_i L G hz hU;obtain ⟨⟨a9,eZ⟩,xZ,sZ⟩:=Yx (P:=g.P) (n:=g.n) (ac:=.zI os) (Q:=ns al σ K r) S.os al L σ G alD σD hz U;refine sZ λbi a7 bb=>?_;obtain ⟨oz,o1,_,o3⟩:=tD g q O hI 1000 0 os [] L G _ r bi a7 h (tf hU) bb (λp b hk=>by grind [yA]) (λp b hk=>by grind [yA]);refine Sem.dE (Sem.oB (Q:=λx Z aa=>x=.normal/\aP L G (λan σ' _=>Uq S.hs an σ' λan=>K .normal an σ') r Z aa []) cW o1 (o3.mono λa s i hA=>⟨rfl,?_⟩)) λx Z aa hA=>.inr ?_
    ·obtain ⟨an,σ',is,W,h2,X,h5,N⟩:=hA;exact ⟨an,σ',[],W,h2,X,.nil,N⟩
    ·obtain ⟨rfl,an,σ',is,W,⟨pre,e1⟩,X,_,N⟩:=hA;obtain ⟨al2,u,g1,g2,⟨ab,e2⟩,g4⟩:=Ze S.hs an Z N W;exact ⟨u,aa,nX.lks (by rw[bb.hh.len,W.hh.len];exact X.len) g4,al2,σ',g2,⟨ab++(pre++a9),by simp_all⟩,Ext.trans U.hh xZ X,g1⟩
   ·simp at h
 |D_ os df k p=>
  intro q al σ K r alD σD h U;simp only[tC] at h;split at h
  ·simp at h
  rename_i hU;split at h
  ·obtain ⟨oz,o1,_,o3⟩:=tD g q O hI 1000 os.length os [] al σ _ r alD σD h (tf hU) U (λp b hk=>by grind [yA]) (λp b hk=>by grind [yA]);refine Sem.drwNQ cW o1 (o3.mono λa s i hA=>?_);obtain ⟨an,σ',is,W,h2,X,h5,N⟩:=hA;dsimp only at N;split at N
   ·rename_i hc;simp only[bp] at hc ⊢;exact ⟨⟨⟨oI h5 hc.1.1,hc.1.2⟩,hc.2⟩,an,σ',W,h2,X,N⟩
   simp_all
  split at h
  ·rename_i pi _ n0 hl;split at h
   ·rename_i hc;obtain ⟨oz,o1,_,o3⟩:=tD g q O hI 1000 n0 (mf pi os) [] al σ _ r alD σD h (tf hc) U (λp b hk=>by grind [yA]) (λp b hk=>by grind [yA]);refine Sem.drwG cW o1 hl (o3.mono λa s i hA=>?_);obtain ⟨an,σ',is,W,h2,X,h5,N⟩:=hA;dsimp only at N;split at N
    ·rename_i hc;exact ⟨OX h5 hc,an,σ',W,h2,X,N⟩
    simp_all
   simp_all
  split at h
  ·obtain ⟨oz,o1,_,o3⟩:=tD g q O hI 1000 (dJ os) os [] al σ _ r alD σD h (tf hU) U (λp b hk=>by grind [yA]) (λp b hk=>by grind [yA]);refine Sem.drwCQ cW o1 (o3.mono λa s i hA=>?_);obtain ⟨an,σ',is,W,h2,X,h5,N⟩:=hA;dsimp only at N;split at N
   ·rename_i hc;simp only[bp] at hc ⊢;exact ⟨⟨⟨oI h5 hc.1.1,hc.1.2⟩,hc.2⟩,an,σ',W,h2,X,N⟩
   simp_all
  ·obtain ⟨oz,o1,_,o3⟩:=tD g q O hI 1000 k os [] al σ _ r alD σD h (tf hU) U (λp b hk=>by grind [yA]) (λp b hk=>by grind [yA]);refine Sem.drwQ cW o1 (o3.mono λa s i hA=>?_);obtain ⟨an,σ',is,W,h2,X,h5,N⟩:=hA;dsimp only at N;split at N
   ·rename_i hc;simp only[bp] at hc ⊢;exact ⟨⟨⟨oI h5 hc.1.1,hc.1.2⟩,hc.2⟩,an,σ',W,h2,X,N⟩
   simp_all
 |seq a b bd a8=>
  intro q al σ K r alD σD h U;simp only[tC] at h;split at h
  ·
   have A:=bd _ _ _ _ _ alD σD h U;refine Sem.i_ (A.dE λx Z aa hP=>.inl ?_);obtain ⟨T,σ1,W,⟨pre,rfl⟩,X,N⟩:=hP;cases x with
   |normal=>refine .inl ((a8 _ _ _ _ _ Z aa N W).dE λx u E hP=>.inl ?_);obtain ⟨al2,au,g1,⟨ab,rfl⟩,g3,g4⟩:=hP;exact ⟨_,au,g1,⟨ab++pre,by simp_all⟩,Ext.trans U.hh X g3,g4⟩
   |exit i=>exact ⟨_,σ1,W,⟨pre,rfl⟩,X,N⟩
   |ret=>exact ⟨_,σ1,W,⟨pre,rfl⟩,X,N⟩
  ·
   rename_i S hJ;split at h
   ·simp at h
   rename_i L G hz;obtain ⟨⟨a9,eZ⟩,xZ,sZ⟩:=GN (P:=g.P) (n:=g.n) (ac:=.seq a b) (Q:=ns al σ K r) S.os al L σ G alD σD hz U;refine sZ λbi a7 bb=>?_;have back:∀{x:kT}{Z:AL}{aa:ae},ns L G K r x Z aa->ns al σ K r x Z aa:=λ⟨T,σ1,W,⟨pre,e⟩,X,N⟩=>⟨T,σ1,W,⟨pre++a9,by simp_all⟩,Ext.trans U.hh xZ X,N⟩;refine Sem.dE ?_ (λx an σ' hP=>.inl (back hP));clear back sZ xZ eZ;replace U:=bb;have A:=bd _ _ _ _ _ bi a7 (show tC g a (2 * q) L G _=some r from h) U;refine Sem.i_ (A.dE λx Z aa hP=>.inl ?_);obtain ⟨T,σ1,W,⟨pre,rfl⟩,X,N⟩:=hP;cases x with
   |normal=>
    dsimp only at N;split at N
    ·rename_i xv hx;obtain ⟨pre,σ1,Z,aa,w1,W,X,hx⟩:=tj U W X hx;obtain ⟨c1,c2,c3,c5,c4⟩:=jL hx;have a0:=kl c1;obtain ⟨e1,_,e3,u,E,e4,e5⟩:=j_ (md:=cj a) U W (λt q h=>tA h) (λt q hm _ m3 h=>kO (λy hy e=>(a0 y hy).elim (λz=>hm (e▸z)) λ⟨b,i,l,lv,cv,z1,z2⟩=>m3 b (e▸z1) i l lv cv z2) h) (TY U.hh c2 X) c3 c5 c4;refine .inr ⟨u,E,by rw[U.hh.len];exact w1.trans e4,(a8 _ _ _ _ _ u E N e5).dE λx a5 a6 hP=>.inl ?_⟩;obtain ⟨al2,au,g1,⟨ab,rfl⟩,g3,g4⟩:=hP;obtain ⟨ad,eA,_⟩:=kD S (cj a) L G xv;exact ⟨_,au,g1,⟨ab++ad,by simp_all⟩,Ext.trans U.hh e1 g3,g4⟩
    simp_all
   |exit i=>exact ⟨_,σ1,W,⟨pre,rfl⟩,X,N⟩
   |ret=>exact ⟨_,σ1,W,⟨pre,rfl⟩,X,N⟩
 |QY o ps a b bd a8=>
  intro q al σ K r alD σD h U;simp only[tC] at h;split at h
  ·simp at h
  rename_i S hJ;split at h
  ·simp at h
  rename_i L G hz;obtain ⟨⟨a9,eZ⟩,xZ,sZ⟩:=GN (P:=g.P) (n:=g.n) (ac:=.QY o ps a b) (Q:=ns al σ K r) S.os al L σ G alD σD hz U;refine sZ λbi a7 bb=>?_;have back:∀{x:kT}{Z:AL}{aa:ae},ns L G K r x Z aa->ns al σ K r x Z aa:=λ⟨T,σ1,W,⟨pre,e⟩,X,N⟩=>⟨T,σ1,W,⟨pre++a9,by simp_all⟩,Ext.trans U.hh xZ X,N⟩;refine Sem.dE ?_ (λx an σ' hP=>.inl (back hP));clear back sZ xZ eZ;replace U:=bb;clear bb hz;split at h
  ·rename_i x0 p bw;obtain ⟨_,c2,c3,c5,c4⟩:=jL bw;obtain ⟨e1,e2,e3,u,E,e4,e5⟩:=j_ (md:=[]) U U (λt q h=>⟨q,h⟩) (λt q _ _ _ h=>h) (TY U.hh c2 (Ext.refl G)) c3 c5 c4;have hr:cP (fC S [] L G x0) u (Cz (cF S [] L G x0) [] none):=kU e5 (λp b hk=>by grind [yA]) (by simp);split at h
   ·rename_i gf bc hc;obtain ⟨b9,_⟩:=hr.c hc (by simp);split at h
    ·rename_i w0 v0 i l s cg ch hb;simp only[bp] at hb;obtain ⟨hp,ck,b4⟩:=hb;have Hb:=hT.iter ch;unfold itF at h;split at h
     ·rename_i i' j f;split at h
      ·rename_i l' cm;obtain ⟨rfl,rfl⟩:=OJ cm;cases hf:f (l',()) with
       |none=>dsimp only at h;rw[hf] at h;simp at h
       |some items=>
       dsimp only at h;rw[hf] at h;simp only[Option.bind_some] at h;have co:=Hb l' items hf;have b5:∀{σ1:TH}{a2:ae},RH σ1 a2->HS (S.pl++Hc S.zs) G σ1->a2[bc]? = some (.cells [.c (.ca false (l'.map (enc i)))]):=λ{σ1 a2} H hs=>by
        obtain ⟨c6,g1,w1,cp,rfl,g2,g3⟩:=hs bc _ cg;cases cp with
        |nil=>simp at g2
        |cons y ys=>
         have:ys=[]:=PM (by simpa using g2);subst this;have:=g3 0 _ _ rfl rfl λc hm=>by have:=fE.1 b4 _ hm;simp at this
         subst this;obtain ⟨ob,o1,o2⟩:=H.hp bc _ g1;rw[o1,show ob=_ from o2];rfl
       have be:∀(items:List (TT j))(x:nO S.pl)(u:AL)(E:ae),Ext G (fC S [] L G x)->HS (S.pl++Hc S.zs) G (fC S [] L G x)->(fC S [] L G x).length=G.length->Ref (cF S [] L G x) (fC S [] L G x) u E ->
         lpR (λy x rec=>tC g a (2 * q) ((p,.v (.agg (exp j y)))::cF S [] L G x) (fC S [] L G x) λex T σ1=>match ex with
          |.normal => tC g b (2 * q + 1) T σ1 λex _ au => match ex with
           |.normal=>match zu S [] (cF S [] L G x) (fC S [] L G x) (cF S [] L G x) au with | some x'=>rec x' | none=>none
           |ex=>K ex (cF S [] L G x) au
          |_=>none) (λx=>K .normal (cF S [] L G x) (fC S [] L G x)) items x=some r ->
         Rng g.P a b g.n [p] bc (.ca false (l'.map (enc i))) a7.length (ns L G K r) (items.map λa=>[ST (enc j a)]) u E:=by
        intro items;induction items with
        |nil=>intro x u E x1 x2 x3 x4 h;obtain ⟨ad,eA,_⟩:=kD S [] L G x;exact ⟨⟨b5 x4.hh x2,by rw[x4.hh.len,x3,U.hh.len]⟩,_,_,x4,⟨ad,eA⟩,x1,h⟩
        |cons y items bh=>
         intro x u E x1 x2 x3 x4 h;obtain ⟨ad,eA,_⟩:=kD S [] L G x;refine ⟨⟨b5 x4.hh x2,by rw[x4.hh.len,x3,U.hh.len]⟩,?_⟩;have R1:Ref ((p,.v (.agg (exp j y)))::cF S [] L G x) (fC S [] L G x) (IP [p] [ST (enc j y)] u) E:=x4.set x4.hh (Ext.refl _) (cI.AQ (.st j) y) (zL (.st j) y);refine (bd _ _ _ _ _ _ E (show tC g a (2 * q) ((p,.v (.agg (exp j y)))::cF S [] L G x) (fC S [] L G x) _=some r from h) R1).dE λex a5 a6 hP=>.inl ?_;obtain ⟨T,σ1,W,_,X,N⟩:=hP;cases ex with
         |normal=>
          refine ⟨rfl,(a8 _ _ _ _ _ a5 a6 (show tC g b (2 * q+1) T σ1 _=some r from N) W).dE λex ax ak hP=>.inl ?_⟩;obtain ⟨al2,au,g1,_,g3,g4⟩:=hP;have x5:Ext (fC S [] L G x) au:=Ext.trans x4.hh X g3;have R4:Ref (cF S [] L G x) au u ak:=⟨g1.hh,λt v q hq=>let ⟨d,m1,m2,m3⟩:=x4.rg t v q hq;⟨d,m1,m2,m3.mono x5 []⟩⟩;cases ex with
          |normal=>
           dsimp only at g4;split at g4
           ·rename_i xv hx;obtain ⟨pre,di,bl,bt,w1,k1,k3,hx⟩:=tj (pre:=[]) x4 R4 x5 hx;obtain ⟨d1,d2,d3,d5,d4⟩:=jL hx;have a0:=kl d1;obtain ⟨f1,f2,f3,b0,b1,f4,f5⟩:=j_ (md:=[]) U k1 (λt q h=>by rw[eA,<-PI];exact tA h)
             (λt q m1 m2 m3 h=>kO (λy hy e=>(a0 y hy).elim (λz=>m1 (e▸z)) λ⟨b,i,l,lv,cv,z1,z2⟩=>let ⟨i,l,lv,cv,z3⟩:=rW x1 x3 z2;m3 b (e▸z1) i l lv cv z3) (xE x1 x3 m1 m2 m3 h)) (x2.trans (TY x4.hh d2 k3)) d3 (by simp_all) d4
            exact ⟨b0,b1,by rw[U.hh.len];rw[x3] at w1;exact w1.trans f4,bh xv b0 b1 f1 f2 f3 f5 g4⟩
           simp_all
          |exit i=>exact ⟨_,au,R4,⟨ad,eA⟩,Ext.trans U.hh x1 x5,g4⟩
          |ret=>exact ⟨_,au,R4,⟨ad,eA⟩,Ext.trans U.hh x1 x5,g4⟩
         |exit i=>simp at N
         |ret=>simp at N
       have c0:a7.length=E.length:=by rw[e5.hh.len,e3,U.hh.len]
       refine Sem.preW (by rw[U.hh.len];exact e4) (Sem.QY (al:=u) (σ:=E) (by cases o <;> exact b9) ck co (λds hd=>?_) (λp' b6=>?_) (c0▸be items x0 u E e1 e2 e3 e5 h))
       ·obtain ⟨y,_,rfl⟩:=dY.1 hd;rfl
       ·simp only[nL] at b6;subst b6;exact qK.mp hp
      ·simp at h
     ·simp at h
    ·simp at h
   ·simp at h
  ·simp at h
 |cond c a b bd a8=>
  intro q al σ K r alD σD h U;simp only[tC] at h;have hr:cP σ alD (Cz al [] none):=kU U (λp b hk=>by grind [yA]) (by simp);split at h
  ·rename_i hc;obtain ⟨W,_⟩:=hr.c hc (by simp);exact Sem.cond (b:=true) (by cases c <;> exact W) (λ_=>bd _ _ _ _ _ alD σD h U) (λe=>by simp at e)
  ·rename_i hc;obtain ⟨W,_⟩:=hr.c hc (by simp);exact Sem.cond (b:=false) (by cases c <;> exact W) (λe=>by simp at e) (λ_=>a8 _ _ _ _ _ alD σD h U)
  ·rename_i e hc;obtain ⟨W,_⟩:=hr.c hc (by simp);refine Sem.cond (b:=e) (by cases c <;> exact W) (λhe=>?_) (λhe=>?_)
   ·grind
   grind
  simp_all
 |block id b a8=>
  intro q al σ K r alD σD h U;simp only[tC] at h;refine Sem.block ((a8 _ _ _ _ _ alD σD h U).dE λx Z aa hP=>.inl ⟨_,_,.refl,?_⟩);obtain ⟨T,σ1,W,h2,X,N⟩:=hP;cases x with
  |normal=>exact ⟨T,σ1,W,h2,X,N⟩
  |ret=>exact ⟨T,σ1,W,h2,X,N⟩
  |exit i=>
   dsimp only at N;refine ⟨λe=>?_,λe=>?_⟩
   ·subst e;have:Nat.beq i i=true:=by simp
    rw[this] at N;exact ⟨T,σ1,W,h2,X,N⟩
   ·have:Nat.beq i id=false:=by
     grind [Nat.eq_of_beq_eq_true]
    rw[this] at N;exact ⟨T,σ1,W,h2,X,N⟩
 |loop b a8=>
  intro q al σ K r alD σD h U;simp only[tC] at h;split at h
  ·simp at h
  ·rename_i S hJ;split at h
   ·rename_i nu hu;refine Sem.loop nu ?_;have be:∀(k:Nat)(al2:TA)(au:TH)(u:AL)(E:ae),(∃pre,al2=pre++al)->Ext σ au->Ref al2 au u E ->
      lpU (λrec al σ=>tC g b (2 * q) al σ λex T σ1=>match ex with | .normal=>rec T σ1 | ex=>K ex T σ1) k al2 au=some r->jN g.P b k g.n u E (ns al σ K r):=by
     intro k;induction k with
     |zero=>grind [lpU]
     |succ k bh=>
      intro al2 au u E x1 x2 x4 h;have B:=a8 _ _ _ _ _ u E (show tC g b (2 * q) al2 au _=some r from h) x4;refine jN.succ (B.dE (Q':=λx T σ1=>match x with | .normal=>∃al2 au,Wk E.length T σ1 al2 au/\jN g.P b k g.n al2 au (ns al σ K r) | x=>∃al2 au,Wk E.length T σ1 al2 au/\ns al σ K r x al2 au) λex a5 a6 hP=>.inl ?_);obtain ⟨T,σ1,W,⟨pre,rfl⟩,X,N⟩:=hP;obtain ⟨ab,rfl⟩:=x1;cases ex with
      |normal=>exact ⟨_,_,.refl,bh _ _ _ _ ⟨pre++ab,by simp_all⟩ (Ext.trans U.hh x2 X) W N⟩
      |exit i=>exact ⟨_,_,.refl,_,σ1,W,⟨pre++ab,by simp_all⟩,Ext.trans U.hh x2 X,N⟩
      |ret=>exact ⟨_,_,.refl,_,σ1,W,⟨pre++ab,by simp_all⟩,Ext.trans U.hh x2 X,N⟩
    exact be nu al σ alD σD ⟨[],rfl⟩ (Ext.refl σ) U h
   split at h
   ·simp at h
   rename_i L G hz;obtain ⟨⟨a9,eZ⟩,xZ,sZ⟩:=GN (P:=g.P) (n:=g.n) (ac:=.loop b) (Q:=ns al σ K r) S.os al L σ G alD σD hz U;refine sZ λbi a7 bb=>?_;have back:∀{x:kT}{Z:AL}{aa:ae},ns L G K r x Z aa->ns al σ K r x Z aa:=λ⟨T,σ1,W,⟨pre,e⟩,X,N⟩=>⟨T,σ1,W,⟨pre++a9,by simp_all⟩,Ext.trans U.hh xZ X,N⟩;refine Sem.dE ?_ (λx an σ' hP=>.inl (back hP));clear back sZ xZ eZ;replace U:=bb;clear bb hz;split at h
   ·
    rename_i zz zs dl;split at h
    ·simp at h
    rename_i a1 af he;obtain ⟨rfl,le,ze,c7,c8,se,Re,xe⟩:=mvE_ok (m:=G.length) (zz::zs) U (cn _) he;split at h
    ·simp at h
    rename_i x0 bw;have b2:G.length<=af.length:=by omega
    obtain ⟨_,c2,c3,c5,c4⟩:=jL bw;obtain ⟨e1,e2,e3,u,E,e4,e5⟩:=j_ (md:=cj b) Re Re (λt q h=>⟨q,h⟩) (λt q _ _ _ h=>h) (TY Re.hh c2 (Ext.refl af)) c3 c5 c4;refine Sem.loop g.N (yY.start (al:=u) (σ:=E) (by rw[U.hh.len];exact se.trans (e4.le b2)) ?_);have be:∀(k:Nat)(x:nO S.pl)(u:AL)(E:ae),Ext af (fC S (cj b) a1 af x)->HS (S.pl++Hc S.zs) af (fC S (cj b) a1 af x)->(fC S (cj b) a1 af x).length=af.length->Ref (cF S (cj b) a1 af x) (fC S (cj b) a1 af x) u E ->
      bo (λrec x=>tC g b (2 * q) (cF S (cj b) a1 af x) (fC S (cj b) a1 af x) λex T σ1=>match ex with
       |.normal => match mvL (T.length - (cF S (cj b) a1 af x).length) (zz :: zs) T σ1 with
        |none=>none
        |some (T,σ1)=>match zu S (cj b) (cF S (cj b) a1 af x) (fC S (cj b) a1 af x) T σ1 with | some x'=>rec x' | none=>none
       |ex=>K ex T σ1) k x=some r->yY g.P b k g.n a7 u E (ns a1 G K r):=by
     intro k;induction k with
     |zero=>grind [bo]
     |succ k bh=>
      intro x u E x1 x2 x3 x4 h;have B:=a8 _ _ _ _ _ u E (show tC g b (2 * q) (cF S (cj b) a1 af x) (fC S (cj b) a1 af x) _=some r from h) x4;refine yY.succ (B.dE λex a5 a6 hP=>.inl ?_);obtain ⟨T,σ1,W,⟨pre,rfl⟩,X,N⟩:=hP;obtain ⟨ad,eA,_⟩:=kD S (cj b) a1 af x;cases ex with
      |normal=>
       dsimp only at N;split at N
       ·grind
       rename_i c9 da b7;rw[show (pre++cF S (cj b) a1 af x).length-(cF S (cj b) a1 af x).length=pre.length by simp_all] at b7;have b8:af.length<=σ1.length:=by rw[<-x3];exact X.len
       obtain ⟨db,dc,dd,rfl,sm,Rm,xm⟩:=mvL_ok (m:=G.length) x4 (zz::zs) X W rfl (λz hz=>⟨(ze z hz).1,By (ze z hz).2 b8⟩) (jz b2 b8) b7;split at N
       ·rename_i xv hx;obtain ⟨ab,au,bl,bt,w1,bu,bv,hx⟩:=tj x4 Rm xm hx;obtain ⟨d1,d2,d3,d5,d4⟩:=jL hx;have a0:=kl d1;obtain ⟨f1,f2,f3,ax,ak,f4,f5⟩:=j_ (md:=cj b) Re bu (λt q h=>by rw[eA,<-PI];exact tA h)
         (λt q m1 m2 m3 h=>kO (λy hy e=>(a0 y hy).elim (λz=>m1 (e▸z)) λ⟨b,i,l,lv,cv,z1,z2⟩=>let ⟨i,l,lv,cv,z3⟩:=rW x1 x3 z2;m3 b (e▸z1) i l lv cv z3) (xE x1 x3 m1 m2 m3 h)) (x2.trans (TY x4.hh d2 bv)) d3 (by simp_all) d4
        refine ⟨ax,ak,?_,bh xv ax ak f1 f2 f3 f5 N⟩;rw[U.hh.len];rw[x3] at w1;exact sm.trans ((w1.trans f4).le b2)
       simp_all
      |exit i=>exact ⟨_,σ1,W,⟨pre++ad,by simp_all⟩,Ext.trans U.hh xe (Ext.trans Re.hh x1 X),N⟩
      |ret=>exact ⟨_,σ1,W,⟨pre++ad,by simp_all⟩,Ext.trans U.hh xe (Ext.trans Re.hh x1 X),N⟩
    exact be g.N x0 u E e1 e2 e3 e5 h
   split at h
   ·simp at h
   ·rename_i x0 bw;obtain ⟨_,c2,c3,c5,c4⟩:=jL bw;obtain ⟨e1,e2,e3,u,E,e4,e5⟩:=j_ (md:=cj b) U U (λt q h=>⟨q,h⟩) (λt q _ _ _ h=>h) (TY U.hh c2 (Ext.refl G)) c3 c5 c4;refine Sem.loop g.N (jN.preW (by rw[U.hh.len];exact e4) ?_);have be:∀(k:Nat)(x:nO S.pl)(u:AL)(E:ae),Ext G (fC S (cj b) L G x)->HS (S.pl++Hc S.zs) G (fC S (cj b) L G x)->(fC S (cj b) L G x).length=G.length->Ref (cF S (cj b) L G x) (fC S (cj b) L G x) u E ->
      bo (λrec x=>tC g b (2 * q) (cF S (cj b) L G x) (fC S (cj b) L G x) λex T σ1=>match ex with
       |.normal=>match zu S (cj b) (cF S (cj b) L G x) (fC S (cj b) L G x) T σ1 with | some x'=>rec x' | none=>none
       |ex=>K ex T σ1) k x=some r->jN g.P b k g.n u E (ns L G K r):=by
     intro k;induction k with
     |zero=>grind [bo]
     |succ k bh=>
      intro x u E x1 x2 x3 x4 h;have B:=a8 _ _ _ _ _ u E (show tC g b (2 * q) (cF S (cj b) L G x) (fC S (cj b) L G x) _=some r from h) x4;refine jN.succW (B.dE λex a5 a6 hP=>.inl ?_);obtain ⟨T,σ1,W,⟨pre,rfl⟩,X,N⟩:=hP;obtain ⟨ad,eA,_⟩:=kD S (cj b) L G x;cases ex with
      |normal=>
       dsimp only at N;split at N
       ·rename_i xv hx;obtain ⟨pre,σ1,a5,a6,w1,W,X,hx⟩:=tj x4 W X hx;obtain ⟨d1,d2,d3,d5,d4⟩:=jL hx;have a0:=kl d1;obtain ⟨f1,f2,f3,ax,ak,f4,f5⟩:=j_ (md:=cj b) U W (λt q h=>by rw[eA,<-PI];exact tA h)
         (λt q m1 m2 m3 h=>kO (λy hy e=>(a0 y hy).elim (λz=>m1 (e▸z)) λ⟨b,i,l,lv,cv,z1,z2⟩=>let ⟨i,l,lv,cv,z3⟩:=rW x1 x3 z2;m3 b (e▸z1) i l lv cv z3) (xE x1 x3 m1 m2 m3 h)) (x2.trans (TY x4.hh d2 X)) d3 (by simp_all) d4
        exact ⟨ax,ak,by rw[x4.hh.len,x3];rw[x3] at w1;exact w1.trans f4,bh xv ax ak f1 f2 f3 f5 N⟩
       simp_all
      |exit i=>exact ⟨_,σ1,W,⟨pre++ad,by simp_all⟩,Ext.trans U.hh x1 X,N⟩
      |ret=>exact ⟨_,σ1,W,⟨pre++ad,by simp_all⟩,Ext.trans U.hh x1 X,N⟩
    exact be g.N x0 u E e1 e2 e3 e5 h
theorem zip_ok:∀(cs:List cI)(a:qh cs)(i t:Nat)(x:RV)(p:Nat),dR t (yx i (tvV cs a))=some (x,p)->∃d v,x=.v v/\lk t (iZ i (qa cs a))=some d/\RT v d/\GV [] v:=by
 intro cs;induction cs with
 |nil=>grind [tvV,yx,dR]
 |cons c cs ih=>
  intro a i t x p h;simp only[tvV,yx,dR] at h;simp only[qa,iZ,lk];split at h
  ·rename_i b;simp only[aj,aM] at h
   try rw[b]
   exact ⟨_,_,h.1.symm,rfl,c.AQ a.1,zL c a.1⟩
  simp_all
theorem Sx:∀(cs:List cI)(a:qh cs),(qa cs a).length=cs.length:=by
 intro cs;induction cs with
 |nil=>intro a;rfl
 |cons c cs ih=>grind [qa]
theorem Za{al:TA}{σ:TH}{alD:AL}{σD:ae}(e:Ref al σ alD σD){q:Nat×Option (Option Nat)}{v:TV}(h:Cu al σ q=some v):∃d,mY alD σD q=some d/\RT v d/\GV σ v:=by
 obtain ⟨t,o⟩:=q;cases o with
 |none=>
  simp only[Cu] at h;split at h
  ·rename_i x f;simp only[aj] at h;subst h;obtain ⟨p,a⟩:=iP f;obtain ⟨d,g,i,j⟩:=e.rg t _ p a;exact ⟨d,g,i,j⟩
  simp_all
 |some m=>
  simp only[Cu] at h;split at h
  ·rename_i b off sz f;obtain ⟨p,a⟩:=iP f;obtain ⟨d,g,i,_⟩:=e.rg t _ p a;have:=RT.c1 (by simp) i;subst this;split at h
   ·rename_i w u k;obtain ⟨ds,j,z,G,_⟩:=e.hh.cells k;split at h
    ·rename_i hs;obtain ⟨d,A,E⟩:=xw h z;refine ⟨d,?_,E,nH h λy l=>?_⟩
     ·simp only[mY,g,TC.er];rw[KY j (sz:=sz) (by simp_all),aE];exact A
     ·rw[dY] at l;obtain ⟨p,a,rfl⟩:=l;exact (e.hh.hg b w u k p a).1
    simp_all
   simp_all
  simp_all
theorem EO{al:TA}{σ:TH}{alD:AL}{σD:ae}(f:Ref al σ alD σD):∀{e:List (Nat×Option (Option Nat))}{vs:List TV},De (Cu al σ) e=some vs->∃ds,e.mapM (mY alD σD)=some ds/\eW vs ds/\∀v∈vs,GV σ v:=by
 intro e;induction e with
 |nil=>intro vs h;simp only[De,aj] at h;subst h;exact ⟨[],rfl,.nil,by simp⟩
 |cons q e ih=>
  intro vs h;simp only[De] at h;split at h
  ·rename_i a b g i;simp only[aj] at h;subst h;obtain ⟨d,l,j,o⟩:=Za f g;obtain ⟨ds,p,k,u⟩:=ih i;refine ⟨d::ds,?_,.cons j k,λv x=>?_⟩
   ·simp_all
   grind
  simp_all
theorem Wn{σ:TH}{σD:ae}(H:RH σ σD):∀{cs:List cI}{vs:List TV}{ds:List D}{r:kg cs},uH σ cs vs=some r->eW vs ds->(∀v∈vs,GV σ v)->∃es,ds.mapM (mI σD 0 100)=some es/\es.map zm=qn cs r/\(∀d,ds=[d]->ue σD 0 100 d=mI σD 0 100 d):=by
 intro cs;induction cs with
 |nil=>
  intro vs ds r h a g;cases a with
  |nil=>exact ⟨[],rfl,rfl,λd e=>by simp at e⟩
  |cons _ _=>grind [uH]
 |cons c cs ih=>
  intro vs ds r h a g;cases a with
  |nil=>grind [uH]
  |cons f a=>
   rename_i v d vs ds;cases cs with
   |nil=>
    cases a with
    |nil=>
     simp only[uH] at h;obtain ⟨b,i,j,k⟩:=KP H (g v (by simp)) f h;refine ⟨[b],by simp_all,by grind [qn],λl e=>?_⟩
     simp_all
    |cons _ _=>grind [uH]
   |cons z cs=>
    cases a with
    |nil=>grind [uH]
    |cons o a=>
     simp only[uH] at h;split at h
     ·rename_i x y p q;simp only[aj] at h;subst h;obtain ⟨b,i,j,k⟩:=KP H (g v (by simp)) f p;obtain ⟨es,A,E,_⟩:=ih q (.cons o a) λv u=>g v (h_ _ u);refine ⟨b::es,by simp_all,by grind [qn],λl e=>by simp at e⟩
     simp_all
theorem tF_ok{P:Program}{S:pL}{B:cJ}{l:An}{H:List (Nat×Nat)}{J:List (Nat×JH)}{C:List (Nat×List CT)}{u:Nat}{g:FuncId}{fn:Func}{j:jE}{e out:List cI}{N:Nat}{a:qh e}{r:kg out}(cW:P.follows .mixedOrders=true)(hS:ed P S)
  (hg:P.funcs[g]? = some fn) (y:aN P g=true) (hc:fX P fn true=some j) (hI:UM ⟨P,S,H,J,C,j.ntmps,N,(KA P S N B l u).1,(KA P S N B l u).2,l⟩) (hn:Nat.ble e.length j.ntmps=true) (h:tF P S B l H J C u j e out N a=some r):Pure P g (qa e a) (qu out r):=by
 refine qT hg y hc (by rw[Sx];simp_all) ?_;have R0:Ref (yx 0 (tvV e a)) [] (iZ 0 (qa e a)) []:=⟨⟨rfl,λb blk h=>by simp at h,λb w cs h=>by simp at h⟩,λt x p h=>by obtain ⟨d,v,rfl,G,z,K⟩:=zip_ok e a 0 t x p h;exact ⟨d,G,z,K⟩⟩
 refine (TL ⟨P,S,H,J,C,j.ntmps,N,(KA P S N B l u).1,(KA P S N B l u).2,l⟩ cW hS hI j.body 1 _ _ _ r _ _ h R0).dE λx A f hP=>.inl ?_;obtain ⟨L,σ',G,_,_,z⟩:=hP;have fin:(match De (Cu L σ') j.results with | some rs=>uH σ' out rs | none=>none)=some r->∃E o,j.results.mapM (mY A f)=some E/\ue f 0 100 (one E)=some o/\BC o (qu out r):=by
  intro z;split at z
  ·rename_i rs O;obtain ⟨ds,K,h4,h5⟩:=EO G O;obtain ⟨U,q,h7,h8⟩:=Wn G.hh z h4 h5;have W:U.length=ds.length:=(Jf q).1;have k:one ds=.aI ds->one (qn out r)=.aI (qn out r)->∃o,ue f 0 100 (one ds)=some o/\BC o (qu out r):=λR X=>by
    rw[R];refine ⟨.aI U,Xn q,BC.KK ?_⟩
    grind [P_,qu]
   have T:(qn out r).length=ds.length:=by grind
   cases ds with
   |nil=>
    obtain ⟨o,R,X⟩:=k rfl (by have:qn out r=[]:=PM T;rw[this];rfl)
    simp_all
   |cons d ds=>
    cases ds with
    |nil=>
     have e3:=h8 d rfl;rw[Pq] at q;cases Z:mI f 0 100 d with
     |none=>simp_all
     |some d'=>
      rw[Z] at q;simp only[List.mapM_nil] at q;cases q;refine ⟨[d],d',K,by rw[<-Z];exact e3,?_⟩;have e4:qu out r=zm d':=by unfold qu;rw[<-h7];rfl
      rw[e4];intro σ M Fz w v hv;exact Aj hv
    |cons d2 ds=>
     obtain ⟨o,R,X⟩:=k rfl (by
      cases ho:qn out r with
      |nil=>simp_all
      |cons o1 os=>
       cases os with
       |nil=>simp_all
       |cons o2 os=>rfl)
     simp_all
  simp_all
 cases x with
 |exit i=>grind
 |normal=>grind
 |ret=>grind
theorem ed.nil{P:Program}:ed P []:=λp i=>by grind
theorem ed.cons{P:Program}{g:Nat}{s:aX}{S:pL}(h:bj P g s)(j:ed P S)(o:Nat.blt g 1048576=true:=by rfl):ed P ((g,s)::S):=by
 intro p i;rcases eU.1 i with rfl | i
 ·exact ⟨λ_=>h,λe=>by rw[o] at e;cases e⟩
 ·exact j p i
theorem ed.it{P:Program}{g:Nat}{s:aX}{S:pL}(h:SM P g s)(j:ed P S):ed P ((g+1048576,s)::S):=by
 intro p i;rcases eU.1 i with rfl | i
 ·exact ⟨λe=>by have:=qK.mp e;dsimp only at this;omega,λ_=>by simpa using h⟩
 ·exact j p i
end
end Go.Abs
end
section
namespace Go.Abs
noncomputable section
variable[Gl][Y:Ty]
section
variable{m:Nat}{σ1 au:ae}{ρ:Nat->Nat}{F:Nat->Prop}
theorem oA{P:Program}{g:FuncId}{fn:Func}{j:jE}{fz:Bool}{ds:List D}{r:D}{σ:ae}(hg:P.funcs[g]? = some fn)(u:fX P fn fz=some j)(y:ds.length<=j.ntmps)
  (h:Sem P j.body j.ntmps (iZ 0 ds) σ λx al σ1=>(x=.normal∨x=.ret)/\∃a ρ F,j.results.mapM (mY al σ1)=some a/\Ox σ.length σ1 au ρ F/\(∀b,F b->σ.length<=b)/\cO σ1 au ρ F (one a) r):Ok P g ds σ r au:=by
 unfold fX at u;split at u
 ·rename_i c hb;split at u
  ·rename_i ac rs h1 h2;simp only[aj] at u;subst u;dsimp only at h y;intro M Fz w i R hs G;refine k_ hg hb ?_;have A0:dP fn.ntmps σ M Fz w (iZ 0 ds) (i++Array.replicate (fn.ntmps-i.size) undef):=by
    refine ⟨by simp_all,λt d K=>?_⟩;obtain ⟨_,Z⟩:=Cd ds 0 t d K;rw[xAe] at Z;have L:t<i.size:=by grind
    exact ⟨i[t],by grind,G t d _ Z (oF L)⟩
   refine JR (h c h1 M Fz w { tmps:=i++Array.replicate (fn.ntmps-i.size) undef,defers:=[] } _ R A0 λx e σ' a' w' M' Fz' hQ hd R' E EV hl=>?_);obtain ⟨hx,a,ρ,F,hm,hN,hF,N⟩:=hQ;have O:rs.mapM (IW (uA fn.ntmps e) σ')=some a:=by
    have aa:∀(l:List (Nat×Option (Option Nat))) a,l.mapM (mY e σ')=some a->l.mapM (IW (uA fn.ntmps e) σ')=some a:=by
     intro l;induction l with
     |nil=>simp_all
     |cons p l ih=>
      intro a h;rw[Pq] at h ⊢;cases z:mY e σ' p with
      |none=>simp_all
      |some d=>
       rw[z] at h;have:IW (uA fn.ntmps e) σ' p=some d:=by
        obtain ⟨t,o⟩:=p;cases o with
        |none=>exact E.cK.2.2 t d z
        |some k=>
         simp only[mY] at z;split at z
         ·rename_i b off sz S;simp only[IW,E.cK.2.2 t _ S];exact z
         simp_all
       rw[this];cases hr:l.mapM (mY e σ') with
       |none=>simp_all
       |some q=>simp_all
    simp_all
   have T:vD x=.normal∨vD x=.ret:=by rcases hx with rfl | rfl <;> simp[vD]
   refine ⟨T,Mk.end hd R' EV λw'' f A mv=>?_⟩;have U:dP fn.ntmps σ' M' Fz' w'' e a'.tmps:=⟨E.1,λt d K=>by obtain ⟨v,q1,q2⟩:=E.2 t d K;exact ⟨v,q1,mv d v q2⟩⟩
   obtain ⟨v,W,X⟩:=ig (P:=P) f U.cK.1 h2 O;exact ⟨v,W,v,_,_,rfl,hN.rel f,N M' Fz' w'' v f X,hN.XM (cn _) hF R f A⟩
  simp_all
 simp_all
end
end
end Go.Abs
end
section
namespace Go.Abs
noncomputable section
variable[Gl][Y:Ty]
theorem BH{c:It}{d:jb}{a:c.dn}(h:ky c d=some a):d=⟨c,a⟩:=by
 unfold ky at h;split at h
 ·rename_i e _;simp only[aj] at h;obtain ⟨it,v⟩:=d
  grind
 simp_all
theorem Cq(c:It)(a:c.dn):ky c ⟨c,a⟩=some a:=by
 unfold ky;split
 ·rfl
 grind
theorem Tt:∀{cs:List It}{ds:List jb}{x:cV cs},rc cs ds=some x->dk cs x=ds:=by
 intro cs;induction cs with
 |nil=>
  intro ds x h;cases ds with
  |nil=>rfl
  |cons d ds=>grind [rc]
 |cons c cs ih=>
  intro ds x h;cases cs with
  |nil=>
   cases ds with
   |nil=>grind [rc]
   |cons d ds=>
    cases ds with
    |nil=>grind [rc,dk,BH]
    |cons _ _=>grind [rc]
  |cons a cs=>
   cases ds with
   |nil=>grind [rc]
   |cons d ds=>grind [rc,dk,BH]
structure SR (σs au:TH):Prop where
 len:au.length=σs.length
 row:∀(b:Nat) i (l:List (TT i)) lv cv,σs[b]? = some (.row i l lv cv)->au[b]? = some (.row i l lv cv)
def GS(σs:TH):TC->Prop
 |.own i b v n=>∃(l:List (TT i))(a:Nat),σs[b]? = some (.row i l v a)/\n=l.length
 |.d x=>x.low σs.length=true
 |.any=>False
 |.op ..=>False
 |.ap ..=>False
 |.os ..=>False
 |.Cj ..=>False
 |_=>True
theorem GS.gc{σs au:TH}(h:SR σs au){x:TC}(g:GS σs x):GC au x:=by
 cases x with
 |own i b v n=>
  obtain ⟨l,o,u,A⟩:=g;refine ⟨_,h.row b i l v o u,λj E G z e=>?_⟩
  grind
 |d x=>show D.low _ _=true;rw[h.len];exact g
 |any=>exact g.elim
 |op=>exact g.elim
 |ap=>exact g.elim
 |os=>exact g.elim
 |Cj=>exact g.elim
 |_=>trivial
theorem G_(σs:TH)(c:CC)(a:c.dn):GS σs (pd c a):=by cases c <;> first | exact True.intro | rfl
theorem Mq{σs:TH}{p:CP}{ds r:List jb}{y:TC}(h:ub σs p ds=some (y,r)):GS σs y:=by
 unfold ub at h;split at h
 ·grind [G_]
 ·split at h
  ·simp only[aj,aM] at h;obtain ⟨rfl,_⟩:=h;trivial
  simp_all
 ·split at h
  ·rename_i i l d b a;simp only[aj,aM] at h;obtain ⟨rfl,_⟩:=h;exact ⟨l,b,a,rfl⟩
  simp_all
 ·split at h
  ·rename_i a;simp only[aj,aM] at h;obtain ⟨rfl,_⟩:=h;show D.low _ _=true;simp only[D.low,aQ];simp_all
  simp_all
 ·split at h
  ·rename_i a;simp only[aj,aM] at h;obtain ⟨rfl,_⟩:=h;show D.low _ _=true;simp only[D.low,aQ];simp_all
  simp_all
 ·split at h
  ·rename_i a;simp only[aj,aM] at h;obtain ⟨rfl,_⟩:=h;show D.low _ _=true;simp only[D.low,D.low.cq,Bool.true_and,JX,aQ];simp_all
  simp_all
 ·split at h
  ·rename_i a;simp only[aj,aM] at h;obtain ⟨rfl,_⟩:=h;exact D.dK (KZ _) a
  simp_all
 simp_all
theorem NH{σs:TH}:∀{ps:List CP}{ds r:List jb}{a:List TC},xA σs ps ds=some (a,r)->∀y∈a,GS σs y:=by
 intro ps;induction ps with
 |nil=>grind [xA]
 |cons p ps ih=>grind [xA,Mq]
theorem RH.mk'{σ:TH}(i:∀(b:Nat) w cs,σ[b]? = some (.cells w cs)->∀p∈cs,GC σ p.2/\p.1<=w):RH σ (σ.map TB.er):=⟨by simp,λb blk j=>⟨blk.er,by simp_all,rfl⟩,i⟩
theorem RH.eqD{σ:TH}{σD:ae}(H:RH σ σD):σD=σ.map TB.er:=by
 apply Qg;intro b;rw[gP];cases i:σ[b]? with
 |none=>grind [RH.len]
 |some blk=>obtain ⟨u,j,o⟩:=H.hp b blk i;rw[j,o];rfl
structure vh (ps:List PC) (σ gK:TH):Prop where
 ext:Ext σ gK
 len:gK.length=σ.length
 cells:∀(b:Nat) w cs,σ[b]? = some (.cells w cs)↔gK[b]? = some (.cells w cs)
 out:∀b,b∉ps.map PC.blk->gK[b]? = σ[b]?
 row:ps.any PC.rs=false->∀(b:Nat) i (l:List (TT i)) lv cv,σ[b]? = some (.row i l lv cv)->gK[b]? = some (.row i l lv cv)
 rh:∃σD',RH gK σD'
theorem gC:∀{ps:List PC}{σ o:TH}{σD:ae}{ds r:List jb},bG σ ps ds=some (o,r)->RH σ σD->vh ps σ o:=by
 intro ps;induction ps with
 |nil=>intro σ o σD ds r h H;simp only[bG,aj,aM] at h;obtain ⟨rfl,_⟩:=h;exact ⟨Ext.refl σ,rfl,λb w f=>Iff.rfl,λb _=>rfl,λ_ b i l q u h=>h,⟨σD,H⟩⟩
 |cons p ps ih=>
  intro σ o σD ds r h H;have one:∀(b:Nat)(blk a:TB)(y:List jb),σ[b]? = some blk->BE blk a->(∀w f,blk≠.cells w f)->(∀w f,a≠.cells w f)->p.blk=b->(p.rs=false->∀i (l:List (TT i)) q u,blk≠.row i l q u)->bG (σ.set b a) ps y=some (o,r)->vh (p::ps) σ o:=by
   intro b blk a y E G U z K W h;have L:RH (σ.set b a) (σD.set b a.er):=H.set E G rfl (λw f e=>absurd e (z w f));have e:=ih h L;refine ⟨Ext.trans H (Ext.set E G) e.ext,by rw[e.len];simp,λx w f=>?_,λx g=>?_,λk x i l q u X=>?_,e.rh⟩
   ·rw[<-e.cells]
    grind
   ·simp only[iH,eU,not_or,K] at g;rw[e.out x g.2,Ru g.1]
   ·simp only[List.any_cons,Bool.or_eq_false_iff] at k;refine e.row k.2 x i l q u ?_
    grind
  cases p with
  |h b j p=>simp only[bG] at h;have e:=ih h H;exact ⟨e.ext,e.len,e.cells,λx g=>e.out x (λN=>g (h_ _ N)),λk=>e.row (by simp_all),e.rh⟩
  |w b i=>
   cases ds with
   |nil=>grind [bG]
   |cons d ds=>
    simp only[bG] at h;split at h
    ·rename_i l j O q u R A;split at h
     ·rename_i S;have:=cr S;subst this;exact one b _ _ ds A ⟨l,_,_,rfl,by omega,by omega,λe=>by omega,λe=>by omega⟩ (λw f e=>by simp at e) (λw f e=>by simp at e) rfl (λe=>by grind [PC.rs]) h
     simp_all
    simp_all
  |m b j st=>
   cases ds with
   |nil=>grind [bG]
   |cons d ds=>
    simp only[bG] at h;split at h
    ·rename_i l Z T O v R A;exact one b _ _ ds A ⟨_,_,_,_,rfl,by omega,λe=>by omega⟩ (λw f e=>by simp at e) (λw f e=>by simp at e) rfl (λ_ i l q u e=>by simp at e) h
    simp_all
theorem Av:∀{a:List NB}{ds r:List jb}{l:TH},cS a ds=some (l,r)->l.length=a.length:=by
 intro a;induction a with
 |nil=>grind [cS]
 |cons nb a ih=>
  intro ds r l h;cases nb with
  |cells b=>grind [cS]
  |row i=>
   cases ds with
   |nil=>grind [cS]
   |cons d ds=>grind [cS]
  |mp j st=>
   cases ds with
   |nil=>grind [cS]
   |cons d ds=>grind [cS]
theorem wv{σs:TH}:∀{a:List NB}{e l:TH}{ds:List jb},de σs a e ds=some l->l.length=a.length/\(∀(k:Nat) i (r:List (TT i)) f g,e[k]? = some (.row i r f g)->k<a.length->(∀ps,a[k]?≠some (.cells ps))->l[k]? = some (.row i r f g)) /\
  (∀(k:Nat) w cs,l[k]? = some (.cells w cs)->(∃w' d,e[k]? = some (.cells w' d)/\cs=d/\w=w')∨∀p∈cs,GS σs p.2/\p.1<=w):=by
 intro a;induction a with
 |nil=>intro e l ds h;simp only[de,aj] at h;simp_all
 |cons nb a ih=>
  intro e l ds h;cases e with
  |nil=>grind [de]
  |cons b e=>
   have q:∀o,de σs a e ds=some o->l=b::o->l.length=(nb::a).length/\(∀(k:Nat) i (r:List (TT i)) f g,(b::e)[k]? = some (.row i r f g)->k<(nb::a).length->(∀ps,(nb::a)[k]?≠some (.cells ps))->l[k]? = some (.row i r f g)) /\
     (∀(k:Nat) w cs,l[k]? = some (.cells w cs)->(∃w' d,(b::e)[k]? = some (.cells w' d)/\cs=d/\w=w')∨∀p∈cs,GS σs p.2/\p.1<=w):=by
    grind
   cases nb with
   |row i=>
    simp only[de] at h
    grind
   |mp j st=>
    simp only[de] at h
    grind
   |cells ps=>
    simp only[de] at h;split at h
    ·rename_i E r v;split at h
     ·rename_i o y;simp only[aj] at h;subst h;obtain ⟨z,G,K⟩:=ih y;refine ⟨by simp[z],λk i r f g hk L N=>?_,λk w cs hk=>?_⟩
      ·grind
      ·cases k with
       |zero=>simp only[List.getElem?_cons_zero,aj,TB.cells.injEq] at hk;obtain ⟨rfl,rfl⟩:=hk;refine .inr λp u=>?_;rw[dY] at u;obtain ⟨x,A,rfl⟩:=u;exact ⟨NH v x A,cn _⟩
       |succ k=>grind
     simp_all
    simp_all
theorem vG:∀{a:List NB}{ds r:List jb}{l:TH},cS a ds=some (l,r)->∀(k:Nat),(∀w cs,l[k]? = some (.cells w cs)->cs=[])/\(∀ps,a[k]? = some (.cells ps)->l[k]? = some (.cells 0 [])):=by
 intro a;induction a with
 |nil=>grind [cS]
 |cons nb a ih=>
  intro ds r l h k;cases nb with
  |cells ps=>
   simp only[cS] at h
   grind
  |row i=>
   cases ds with
   |nil=>grind [cS]
   |cons d ds=>grind [cS]
  |mp j st=>
   cases ds with
   |nil=>grind [cS]
   |cons d ds=>grind [cS]
structure Ny (σs:TH) (ps:List PC) (σ σ':TH):Prop where
 len:σ'.length=σ.length
 same:∀(b:Nat) blk,σ[b]? = some blk->(∀w cs,blk≠.cells w cs)->σ'[b]? = some blk
 fwd:∀(b:Nat) w cs,σ[b]? = some (.cells w cs)->∃w' cs',σ'[b]? = some (.cells w' cs')/\w<=w'/\cs'.length=cs.length/\∀(j:Nat) v1 x1,cs'[j]? = some (v1,x1)->cs[j]? = some (v1,x1)∨(w<v1/\v1<=w'/\GS σs x1)
 out:∀b,b∉ps.map PC.blk->σ'[b]? = σ[b]?
theorem jK{σs:TH}:∀{ps:List PC}{σ σ':TH}{ds r:List jb},du σs ps σ ds=some (σ',r)->Ny σs ps σ σ':=by
 intro ps;induction ps with
 |nil=>intro σ σ' ds r h;simp only[du,aj,aM] at h;obtain ⟨rfl,_⟩:=h;exact ⟨rfl,λb blk h _=>h,λb w l h=>⟨w,l,h,cn _,rfl,λj A E e=>.inl e⟩,λb _=>rfl⟩
 |cons p ps ih=>
  intro σ σ' ds r h;have skip:du σs ps σ ds=some (σ',r)->Ny σs (p::ps) σ σ':=λh=>by have e:=ih h;exact ⟨e.len,e.same,e.fwd,λb a=>e.out b λq=>a (h_ _ q)⟩
  cases p with
  |w b i=>grind [du]
  |m b j st=>grind [du]
  |h b j p=>
   simp only[du] at h;split at h
   ·rename_i x G w l u o;have g:=Mq u;have e:=ih h;refine ⟨by rw[e.len];simp,λd blk a v=>?_,λd y f a=>?_,λd a=>?_⟩
    ·refine e.same d blk ?_ v
     grind
    ·by_cases k:d=b
     ·subst k;rw[o] at a;simp only[aj,TB.cells.injEq] at a;obtain ⟨rfl,rfl⟩:=a;obtain ⟨w2,z,K,L,N,O⟩:=e.fwd d _ _ (EI o)
      grind
     ·exact e.fwd d y f (by grind)
    ·simp only[iH,eU,not_or,PC.blk] at a;rw[e.out d a.2,Ru a.1]
   simp_all
def eD:TV->D
 |.c x=>x.er
 |.agg a=>.agg (a.map TC.er)
 |.aI _=>.aI []
def nT:TV->Prop
 |.aI _=>False
 |_=>True
def GVs(σs:TH):TV->Prop
 |.c x=>GS σs x
 |.agg a=>∀x∈a,GS σs x
 |.aI _=>False
theorem GS.fp(σs:TH)(i:Nat)(a:TT i):GS σs (.fp i a 0):=True.intro
theorem exp_gs(σs:TH)(i:Nat)(a:TT i):∀y∈exp i a,GS σs y:=by
 have d:∀(b:List CC)(x:aI b),∀y∈sR b x,GS σs y:=by
  intro b;induction b with
  |nil=>grind [sR]
  |cons c b ih=>grind [sR,G_]
 exact d _ _
theorem pRO_gs{σs:TH}{p:RO}{ds r:List jb}{v:TV}(h:vV σs p ds=some (v,r)):GVs σs v:=by
 unfold vV at h;split at h
 ·split at h
  ·simp only[aj,aM] at h;obtain ⟨rfl,_⟩:=h;exact G_ σs _ _
  simp_all
 ·split at h
  ·simp only[aj,aM] at h;obtain ⟨rfl,_⟩:=h;exact exp_gs σs _ _
  simp_all
 ·split at h
  ·simp only[aj,aM] at h;obtain ⟨rfl,_⟩:=h;exact True.intro
  simp_all
 ·split at h
  ·rename_i x b a;simp only[aj,aM] at h;obtain ⟨rfl,_⟩:=h;exact Mq a
  simp_all
 ·split at h
  ·rename_i d b a;simp only[aj,aM] at h;obtain ⟨rfl,_⟩:=h;exact NH a
  simp_all
 simp_all
theorem Ha{σs:TH}:∀{ps:List RO}{ds r:List jb}{vs:List TV},jr σs ps ds=some (vs,r)->∀v∈vs,GVs σs v:=by
 intro ps;induction ps with
 |nil=>grind [jr]
 |cons p ps ih=>grind [jr,pRO_gs]
theorem GVs.gv{σs au:TH}(h:SR σs au){v:TV}(g:GVs σs v):GV au v:=by
 cases v with
 |c x=>exact GS.gc h g
 |agg i=>exact λx j=>GS.gc h (g x j)
 |aI i=>exact g.elim
theorem GVs.nt{σs:TH}{v:TV}(g:GVs σs v):nT v:=by
 cases v with
 |aI i=>exact g.elim
 |_=>trivial
theorem RT.eD{v:TV}(h:nT v):RT v (eD v):=by
 cases v with
 |c x=>exact .inr rfl
 |agg i=>exact ⟨_,rfl,aC.er i⟩
 |aI i=>exact h.elim
theorem NM{vs:List TV}(h:∀v∈vs,nT v):RT (vX vs) (one (vs.map Go.Abs.eD)):=by
 have aI:∀(vs:List TV),(∀v∈vs,nT v)->aC RE (vs.map teT) (vs.map Go.Abs.eD):=by
  intro vs;induction vs with
  |nil=>intro _;exact .nil
  |cons v vs ih=>
   intro h;refine .cons ?_ (ih λv b=>h v (h_ _ b));have:=h v (iz ..);cases v with
   |c x=>exact ⟨x,rfl,.inr rfl⟩
   |agg a=>exact ⟨_,rfl,aC.er a⟩
   |aI a=>exact this.elim
 cases vs with
 |nil=>exact ⟨[],rfl,.nil⟩
 |cons v vs=>
  cases vs with
  |nil=>exact RT.eD (h v (iz ..))
  |cons d vs=>exact ⟨_,rfl,aI _ h⟩
theorem Ng{σ:TH}{vs:List TV}(h:∀v∈vs,GV σ v):GV σ (vX vs):=by
 have aI:∀(vs:List TV),(∀v∈vs,GV σ v)->GV σ (.aI (vs.map teT)):=by
  intro vs h p b x a;rw[dY] at b;obtain ⟨v,d,rfl⟩:=b;have:=h v d;cases v with
  |c y=>simp only[teT,eU,Hj,Hg] at a;subst a;exact this
  |agg e=>exact this x a
  |aI e=>grind [teT]
 cases vs with
 |nil=>exact aI _ h
 |cons v vs=>
  cases vs with
  |nil=>exact h v (iz ..)
  |cons f vs=>exact aI _ h
theorem Jy:∀{ps:List PC}{σ f:TH}{ds r:List jb},bG σ ps ds=some (f,r)->∀p∈ps,(∃b i,p=.w b i)∨(∃b j st,p=.m b j st)->p.blk<σ.length:=by
 intro ps;induction ps with
 |nil=>simp_all
 |cons p ps ih=>
  intro σ f ds r h q a u;cases p with
  |h b j c=>grind [bG]
  |w b i=>
   cases ds with
   |nil=>grind [bG]
   |cons d ds=>
    simp only[bG] at h;split at h
    ·rename_i l j g x y k e;split at h
     ·rcases eU.1 a with rfl | a
      ·exact (d_.1 e).1
      grind
     simp_all
    simp_all
  |m b j st=>
   cases ds with
   |nil=>grind [bG]
   |cons d ds=>
    simp only[bG] at h;split at h
    ·rename_i l z o g v k e;rcases eU.1 a with rfl | a
     ·exact (d_.1 e).1
     grind
    simp_all
theorem WM{σs:TH}:∀{ps:List PC}{σ σ':TH}{ds r:List jb},du σs ps σ ds=some (σ',r)->∀b j p,PC.h b j p∈ps->b<σ.length:=by
 intro ps;induction ps with
 |nil=>simp_all
 |cons q ps ih=>
  intro σ σ' ds r h b j p e;cases q with
  |w a i=>grind [du]
  |m a d st=>grind [du]
  |h a d f=>grind [du]
structure Laid (ct:CT) (σ:TH) (ds:List jb) (rv:List TV) (F:TH) where
 gK:TH
 d1:List jb
 nb:TH
 d2:List jb
 d3:List jb
 au:TH
 d4:List jb
 l:TH
 h1:bG σ ct.pl ds=some (gK,d1)
 h2:cS ct.nb d1=some (nb,d2)
 h3:jr (gK++nb) ct.out d2=some (rv,d3)
 h4:du (gK++nb) ct.pl gK d3=some (au,d4)
 h5:de (gK++nb) ct.nb nb d4=some l
 e:F=au++l
theorem kr{ct:CT}{σ F:TH}{x:cV ct.items}{rv:List TV}(h:kC ct σ x=some (rv,F)):Nonempty (Laid ct σ (dk ct.items x) rv F):=by
 unfold kC at h;split at h
 ·simp at h
 ·rename_i a b d;split at h
  ·simp at h
  ·rename_i nb e f;split at h
   ·simp at h
   ·rename_i p g i;split at h
    ·simp at h
    ·rename_i au j k;split at h
     ·rename_i l o;simp only[aj,aM] at h;obtain ⟨rfl,rfl⟩:=h;exact ⟨⟨a,b,nb,e,g,au,j,l,d,f,i,k,o,rfl⟩⟩
     simp_all
section
variable{ct:CT}{σ F:TH}{σD:ae}{ds:List jb}{rv:List TV}
theorem Laid.fl(L:Laid ct σ ds rv F):F.length=L.au.length+L.l.length:=by have:=M_ List.length L.e;simp_all
theorem Laid.fa(L:Laid ct σ ds rv F)(b:Nat):F[b]? = (L.au++L.l)[b]?:=M_ (λl=>l[b]?) L.e
theorem Laid.sr(L:Laid ct σ ds rv F):SR (L.gK++L.nb) F:=by
 have C:=jK L.h4;obtain ⟨x,z,K⟩:=wv L.h5;refine ⟨by rw[L.fl,Jw,C.len,x,Av L.h2],λb i l A E j=>?_⟩;rw[L.fa];rcases qG b L.gK.length with o | u
 ·rw[DK o] at j;rw[DK (by grind [Ny.len])];exact C.same b _ j (λw O e=>by simp at e)
 ·rw[KE u] at j;rw[KE (by grind [Ny.len]),C.len];refine z _ i l A E j (by rw[<-Av L.h2];grind) λG e=>?_;rw[(vG L.h2 _).2 G e] at j
  grind
theorem Laid.lt(L:Laid ct σ ds rv F)(H:RH σ σD){b:Nat}(h:b<σ.length):F[b]? = L.au[b]?:=by have C:=jK L.h4;have i:=gC L.h1 H;rw[L.fa,DK (by rw[C.len,i.len];exact h)]
theorem Laid.ext(L:Laid ct σ ds rv F)(H:RH σ σD):Ext σ F:=by
 have C:=jK L.h4;have E:=gC L.h1 H;obtain ⟨G,X⟩:=E.rh;refine Ext.trans H E.ext λb blk K=>?_;have u:b<σ.length:=by grind [vh.len]
 rw[L.lt H u];have other:(∀w z,blk≠.cells w z)->∃o,L.au[b]? = some o/\BE blk o:=λO=>⟨blk,C.same b blk K O,BE.refl blk⟩;cases blk with
 |cells w z=>
  obtain ⟨w',A,R,U,W,Z⟩:=C.fwd b w z K;refine ⟨_,R,w',A,rfl,U,W,λj v x v1 x1 h h1=>?_⟩
  grind
 |row i l lv cv=>simp_all
 |mp j st l v=>simp_all
theorem Laid.rh(L:Laid ct σ ds rv F)(H:RH σ σD):RH F (F.map TB.er):=by
 have C:=jK L.h4;have X:=gC L.h1 H;have S:=L.sr;obtain ⟨Z,Hr⟩:=X.rh;obtain ⟨n1,n2,n3⟩:=wv L.h5;have er:Ext L.gK F:=λb blk u=>by
  have E:b<σ.length:=by grind [vh.len]
  rw[L.lt H E];have other:(∀w z,blk≠.cells w z)->∃A,L.au[b]? = some A/\BE blk A:=λhn=>⟨blk,C.same b blk u hn,BE.refl blk⟩;cases blk with
  |cells w z=>
   obtain ⟨w',G,O,U,e3,e4⟩:=C.fwd b w z u;refine ⟨_,O,w',G,rfl,U,e3,λj v x v1 x1 h W=>?_⟩
   grind
  |row i l lv cv=>simp_all
  |mp j st l v=>simp_all
 refine RH.mk' λb w z u p hp=>?_;rcases qG b σ.length with E | ab
 ·rw[L.lt H E] at u;have K:=cT (show b<L.gK.length by grind [vh.len]);cases o:L.gK[b]'(by grind) with
  |row i l lv cv=>rw[o] at K;rw[C.same b _ K (λw z e=>by simp at e)] at u;grind
  |mp j st l v=>rw[o] at K;rw[C.same b _ K (λw z e=>by simp at e)] at u;grind
  |cells w0 R=>
   rw[o] at K;obtain ⟨w',G,O,U,e3,e4⟩:=C.fwd b w0 R K;rw[u] at O;simp only[aj,TB.cells.injEq] at O;obtain ⟨rfl,rfl⟩:=O;obtain ⟨j,hj⟩:=yB7 hp;obtain ⟨v1,x1⟩:=p;rcases e4 j v1 x1 hj with h5 | ⟨h5,h6,h7⟩
   ·obtain ⟨h8,h9⟩:=Hr.hg b w0 R K _ (vB h5);exact ⟨h8.mono er,jz h9 U⟩
   grind [GS.gc]
 ·have aa:L.au.length=σ.length:=by rw[C.len,X.len]
  rw[L.fa,KE (by omega)] at u;rcases n3 _ w z u with ⟨w',G,W,rfl,rfl⟩ | W
  ·rw[(vG L.h2 _).1 w z W] at hp;grind
  grind [GS.gc]
theorem Laid.out(L:Laid ct σ ds rv F)(H:RH σ σD){b:Nat}(j:b<σ.length)(i:b∉ct.pl.map PC.blk):F[b]? = σ[b]?:=by rw[L.lt H j,(jK L.h4).out b i,(gC L.h1 H).out b i]
theorem Laid.szs(L:Laid ct σ ds rv F)(H:RH σ σD)(K:ct.pl.any PC.rs=false){b:Nat}(z:b<σ.length):∃x y,σ[b]? = some x/\F[b]? = some y/\x.er.sz=y.er.sz:=by
 have C:=jK L.h4;have E:=gC L.h1 H;have u:=cT z;cases o:σ[b] with
 |cells w A=>rw[o] at u;obtain ⟨w',O,R,e2,e3,e4⟩:=C.fwd b w A ((E.cells b w A).1 u);exact ⟨_,_,u,by rw[L.lt H z];exact R,by grind [TB.er,Ob.sz]⟩
 |row i l U W=>rw[o] at u;exact ⟨_,_,u,by rw[L.lt H z];exact C.same b _ (E.row K b i l U W u) (λw A e=>by simp at e),rfl⟩
 |mp j st l v=>rw[o] at u;obtain ⟨G,X,j1,Z,l1,v1,rfl,_⟩:=L.ext H b _ u;exact ⟨_,_,u,X,rfl⟩
theorem Laid.all(L:Laid ct σ ds rv F)(H:RH σ σD):RH F (F.map TB.er)/\RT (vX rv) (one (rv.map eD))/\GV F (vX rv)/\Ext σ F/\(∀b,b<σD.length->b∉ct.pl.map PC.blk->(F.map TB.er)[b]? = σD[b]?)/\(ct.pl.any PC.rs=false->jm σD (F.map TB.er) (ct.pl.map PC.blk)=true):=by
 have g:=Ha L.h3;refine ⟨L.rh H,NM λv o=>(g v o).nt,Ng λv o=>(g v o).gv L.sr,L.ext H,λb u E=>?_,λG=>?_⟩
 ·rw[H.eqD,gP,gP,L.out H (by grind [RH.len]) E]
 ·rw[H.eqD,jm,fE];intro b u;rw[dY] at u;obtain ⟨p,z,rfl⟩:=u;have A:p.blk<σ.length:=by
   cases p with
   |w b i=>exact Jy L.h1 _ z (.inl ⟨b,i,rfl⟩)
   |m b j st=>exact Jy L.h1 _ z (.inr ⟨b,j,st,rfl⟩)
   |h b j c=>have:=WM L.h4 b j c z;rwa [(gC L.h1 H).len] at this
  obtain ⟨x,y,K,O,R⟩:=L.szs H G A
  simp_all
end
end
end Go.Abs
end
section
namespace Go.Abs
noncomputable section
variable[Gl][Y:Ty]
structure Mo (s s':MS):Prop where
 Hl:∀b o,mU b s.ρ=some o->mU b s'.ρ=some o
 fz:∀b,b∈s.fz->b∈s'.fz
theorem Mo.refl(s:MS):Mo s s:=⟨λ_ _ h=>h,λ_ h=>h⟩
theorem Mo.trans{a b c:MS}(h:Mo a b)(i:Mo b c):Mo a c:=⟨λx o e=>i.Hl x o (h.Hl x o e),λx e=>i.fz x (h.fz x e)⟩
structure MI (m:Nat) (σ1:TH) (s:MS):Prop where
 ge:∀p∈s.ρ,m<=p.1/\m<=p.2
 fz:∀b∈s.fz,∃(i:Nat)(l:List (TT i))(lv cv:Nat),σ1[b]? = some (.row i l lv cv)
def Bd(m:Nat)(s:MS)(b a:Nat):Prop:=(b<m/\a=b)∨(m<=b/\mU b s.ρ=some a)
theorem Bd.mono{m:Nat}{s s':MS}{b i:Nat}(h:Mo s s'):Bd m s b i->Bd m s' b i
 |.inl a=>.inl a
 |.inr a=>.inr ⟨a.1,h.Hl _ _ a.2⟩
def CM(m:Nat)(σ1 σs:TH)(s:MS)(x y:TC):Prop:=
 (BC x.er y.er/\y.er.low 0=true/\(x=.d (.c (.lit (.slice none 0 0)))∨x.er=y.er)) ∨
 (∃(i b v:Nat)(l:List (TT i))(d:Nat),x=.own i b v l.length/\b∈s.fz/\σ1[b]? = some (.row i l v d)/\y.er=.c (.ca false (l.map (enc i)))) ∨
 (∃(i b a v:Nat)(g:List (TT i))(e j h:Nat)(l:List (TT j))(d:Nat),x=.own i a v g.length/\Bd m s b a/\σ1[a]? = some (.row i g v e)/\y=.own j b h l.length/\σs[b]? = some (.row j l h d)) ∨
 (∃b a off sz,x=.d (.ptr a off sz)/\Bd m s b a/\y=.d (.ptr b off sz)/\b<σs.length) ∨
 (∃b a,x=.d (.mp a)/\Bd m s b a/\y=.d (.mp b)/\b<σs.length) ∨
 (∃f b a sz,x=.d (.fn (.func f) [] [.ptr a 0 sz])/\Bd m s b a/\y=.d (.fn (.func f) [] [.ptr b 0 sz])/\b<σs.length)
variable{m:Nat}{σ σ1 σs:TH}{s s':MS}
theorem CM.mono(h:Mo s s'){x y:TC}(c:CM m σ1 σs s x y):CM m σ1 σs s' x y:=by
 rcases c with c | ⟨i,b,v,l,G,o,u,z,A⟩ | ⟨i,b,E,v,O,K,j,R,l,G,o,u,z,A,U⟩ | ⟨b,E,off,sz,o,u,z,A⟩ | ⟨b,E,o,u,z,A⟩ | ⟨f,b,E,sz,o,u,z,A⟩
 ·exact .inl c
 ·exact .inr (.inl ⟨i,b,v,l,G,o,h.fz _ u,z,A⟩)
 ·exact .inr (.inr (.inl ⟨i,b,E,v,O,K,j,R,l,G,o,u.mono h,z,A,U⟩))
 ·exact .inr (.inr (.inr (.inl ⟨b,E,off,sz,o,u.mono h,z,A⟩)))
 ·exact .inr (.inr (.inr (.inr (.inl ⟨b,E,o,u.mono h,z,A⟩))))
 ·exact .inr (.inr (.inr (.inr (.inr ⟨f,b,E,sz,o,u.mono h,z,A⟩))))
theorem aC.mono{α i:Type}{R j:α->i->Prop}(h:∀a b,R a b->j a b){l:List α}{o:List i}(a:aC R l o):aC j l o:=by
 induction a with
 |nil=>exact .nil
 |cons x _ ih=>exact .cons (h _ _ x) ih
theorem CM.data{c:CC}{x:TC}{a:c.dn}(h:Af c x=some a):CM m σ1 σs s x (pd c a):=by have i:=mK h;refine .inl ⟨?_,by rw[jZ];rfl,by grind [jZ,Ml]⟩;rw[jZ,<-i.2];intro σ M Fz w v j;exact FM j
theorem MA{c:CC}{x:TC}{a:c.dn}(h:Af c (zi σ1 x)=some a)(g:GC σ1 x):(∀b∈gV [x],∃(i:Nat)(l:List (TT i))(d e:Nat),σ1[b]? = some (.row i l d e))/\∀m σs s,(∀b∈gV [x],b∈s.fz)->CM m σ1 σs s x (pd c a):=by
 cases x with
 |own i b v n=>
  simp only[zi] at h;split at h
  ·rename_i j l d e o;split at h
   ·rename_i p;have:=cr p;subst this;obtain ⟨blk,f,q⟩:=g;rw[o] at f;simp only[aj] at f;obtain ⟨_,u⟩:=q _ _ _ _ f.symm;obtain ⟨rfl,rfl⟩:=u rfl;refine ⟨λz k=>?_,λm σs s hs=>.inr (.inl ⟨j,b,d,l,e,rfl,hs b (by simp[gV]),o,?_⟩)⟩
    ·simp only[gV,eU,Hj,Hg] at k
     grind
    ·have y:=mK h;rw[jZ,<-y.2];rfl
   grind [Af]
  grind [Af]
 |_=>exact ⟨by simp[gV],λm σs s _=>CM.data h⟩
theorem Uu{d a:D}(h:eqK d a=true):d=a:=by
 unfold eqK at h;split at h
 ·rfl
 ·rfl
 ·rfl
 ·rfl
 ·simp_all
 ·simp_all
 simp_all
theorem xh{b g:Nat}(h:DP m b g s=some s'):Mo s s'/\s'.rw=s.rw/\s'.cl=s.cl/\Bd m s' b g/\(MI m σ1 s->MI m σ1 s'):=by
 unfold DP at h;split at h
 ·rename_i a;split at h
  ·rename_i e;simp only[aj] at h;subst h;exact ⟨Mo.refl s,rfl,rfl,.inl ⟨qK.mp a,(cr e).symm⟩,id⟩
  simp_all
 ·rename_i a;have d:m<=b:=by
   grind [Nat.blt_eq]
  split at h
  ·rename_i o i;split at h
   ·rename_i e;simp only[aj] at h;subst h;have:=cr e;subst this;exact ⟨Mo.refl s,rfl,rfl,.inr ⟨d,i⟩,id⟩
   simp_all
  ·rename_i i;split at h
   ·rename_i j;simp only[aj] at h;subst h;refine ⟨⟨λq o k=>?_,λ_ h=>h⟩,rfl,rfl,.inr ⟨d,?_⟩,λI=>⟨λp f=>?_,I.fz⟩⟩
    ·grind [mU,Nat.eq_of_beq_eq_true]
    ·grind [mU,Nat.beq_refl]
    ·rcases eU.1 f with rfl | f
     ·simp_all
     ·exact I.ge p f
   simp_all
theorem LX{p:CP}{x:TC}(h:mCP m σ1 p x s=some s')(g:GC σ1 x):∃Z,s'.cl=s.cl++Z/\s'.rw=s.rw/\Mo s s'/\(MI m σ1 s->MI m σ1 s')/\∀σs e y r,ub σs p (Z++e)=some (y,r)->r=e/\CM m σ1 σs s' x y:=by
 unfold mCP at h;split at h
 ·rename_i c i b v n;split at h
  ·rename_i a ha;simp only[aj] at h;subst h;obtain ⟨N,O⟩:=MA ha g;refine ⟨_,rfl,rfl,⟨λ_ _ h=>h,λ_ h=>h_ _ h⟩,λI=>⟨I.ge,λz A=>?_⟩,λσs e y r k=>?_⟩
   ·rcases eU.1 A with rfl | A
    ·exact N _ (by simp[gV])
    ·exact I.fz z A
   ·simp only[List.singleton_append,ub,Cq,aj,aM] at k;obtain ⟨rfl,rfl⟩:=k;exact ⟨rfl,O m σs _ (by simp[gV])⟩
  simp_all
 ·rename_i c x hx;split at h
  ·rename_i a ha;simp only[aj] at h;subst h;refine ⟨_,rfl,rfl,⟨λ_ _ h=>h,λ_ h=>h⟩,λI=>⟨I.ge,I.fz⟩,λσs e y r k=>?_⟩;simp only[List.singleton_append,ub,Cq,aj,aM] at k
   grind [CM.data]
  simp_all
 ·rename_i u v;simp only[aj] at h;subst h;refine ⟨_,rfl,rfl,⟨λ_ _ h=>h,λ_ h=>h⟩,λI=>⟨I.ge,I.fz⟩,λσs e y r k=>?_⟩;simp only[List.singleton_append,ub,Cq,aj,aM] at k;obtain ⟨rfl,rfl⟩:=k;exact ⟨rfl,.inl ⟨λ_ _ _ _ _ h=>h,rfl,.inr rfl⟩⟩
 ·rename_i b i z v n;split at h
  ·rename_i j l lv cv q;split at h
   ·rename_i o;have:=cr o;subst this;obtain ⟨blk,N,O⟩:=g;rw[q] at N;simp only[aj] at N;obtain ⟨_,h3⟩:=O _ _ _ _ N.symm;obtain ⟨rfl,rfl⟩:=h3 rfl;obtain ⟨E,G,R,K,L⟩:=xh (σ1:=σ1) h;refine ⟨[],by simp_all,G,E,L,λσs e y r k=>?_⟩;simp only[List.nil_append,ub] at k;split at k
    ·rename_i i' l' S T hs;simp only[aj,aM] at k;obtain ⟨rfl,rfl⟩:=k;exact ⟨rfl,.inr (.inr (.inl ⟨_,b,z,_,l,cv,i',S,l',T,rfl,K,q,rfl,hs⟩))⟩
    simp_all
   simp_all
  simp_all
 ·rename_i b off sz z aa U;split at h
  ·rename_i o;simp only[bp] at o;have W:=cr o.1;have X:=cr o.2;subst W X;obtain ⟨E,G,R,K,L⟩:=xh (σ1:=σ1) h;refine ⟨[],by simp_all,G,E,L,λσs e y r k=>?_⟩;simp only[List.nil_append,ub] at k;split at k
   ·rename_i q;simp only[aj,aM] at k;obtain ⟨rfl,rfl⟩:=k;exact ⟨rfl,.inr (.inr (.inr (.inl ⟨b,z,off,sz,rfl,K,rfl,qK.mp q⟩)))⟩
   simp_all
  simp_all
 ·rename_i b z;obtain ⟨E,G,R,K,L⟩:=xh (σ1:=σ1) h;refine ⟨[],by simp_all,G,E,L,λσs e y r k=>?_⟩;simp only[List.nil_append,ub] at k;split at k
  ·rename_i q;simp only[aj,aM] at k;obtain ⟨rfl,rfl⟩:=k;exact ⟨rfl,.inr (.inr (.inr (.inr (.inl ⟨b,z,rfl,K,rfl,qK.mp q⟩))))⟩
  simp_all
 ·rename_i f b sz f' z U;split at h
  ·rename_i o;simp only[bp] at o;have W:=cr o.1;have X:=cr o.2;subst W X;obtain ⟨E,G,R,K,L⟩:=xh (σ1:=σ1) h;refine ⟨[],by simp_all,G,E,L,λσs e y r k=>?_⟩;simp only[List.nil_append,ub] at k;split at k
   ·rename_i q;simp only[aj,aM] at k;obtain ⟨rfl,rfl⟩:=k;exact ⟨rfl,.inr (.inr (.inr (.inr (.inr ⟨_,b,z,_,rfl,K,rfl,qK.mp q⟩))))⟩
   simp_all
  simp_all
 ·rename_i d d';split at h
  ·rename_i o;have:=Uu o;subst this;simp only[aj] at h;subst h;refine ⟨[],by simp_all,rfl,Mo.refl s,id,λσs e y r k=>?_⟩;simp only[List.nil_append,ub] at k;split at k
   ·rename_i q;simp only[aj,aM] at k;obtain ⟨rfl,rfl⟩:=k;exact ⟨rfl,.inl ⟨λ_ _ _ _ _ h=>h,q,.inr rfl⟩⟩
   simp_all
  simp_all
 simp_all
theorem NG:∀{ps:List CP}{xs:List TC}{s s':MS},JK m σ1 ps xs s=some s'->(∀x∈xs,GC σ1 x)->∃f,s'.cl=s.cl++f/\s'.rw=s.rw/\Mo s s'/\(MI m σ1 s->MI m σ1 s')/\∀σs a d r,xA σs ps (f++a)=some (d,r)->r=a/\aC (CM m σ1 σs s') xs d:=by
 intro ps;induction ps with
 |nil=>
  intro xs s s' h g;cases xs with
  |nil=>simp only[JK,aj] at h;subst h;refine ⟨[],by simp,rfl,Mo.refl s,id,λσs a d r b=>?_⟩;simp only[List.nil_append,xA,aj,aM] at b;obtain ⟨rfl,rfl⟩:=b;exact ⟨rfl,.nil⟩
  |cons x xs=>grind [JK]
 |cons p ps ih=>
  intro xs s s' h g;cases xs with
  |nil=>grind [JK]
  |cons x xs=>
   simp only[JK] at h;split at h
   ·rename_i s1 j;obtain ⟨k,N,O,l,o,q⟩:=LX j (g x (iz ..));obtain ⟨u,R,S,i,v,z⟩:=ih h λy b=>g y (h_ _ b);refine ⟨k++u,by grind,by grind,l.trans i,λI=>v (o I),λσs a d r b=>?_⟩;rw[PI] at b;simp only[xA] at b;split at b
    ·rename_i y A E;obtain ⟨rfl,c1⟩:=q σs _ y A E;split at b
     ·rename_i G T K;simp only[aj,aM] at b;obtain ⟨rfl,rfl⟩:=b;obtain ⟨e,L⟩:=z σs _ _ _ K;exact ⟨e,.cons (c1.mono i) L⟩
     grind
    grind
   simp_all
def VM(m:Nat)(σ1 σs:TH)(s:MS):TV->TV->Prop
 |.c x,.c y=>CM m σ1 σs s x y
 |.agg xs,.agg a=>aC (CM m σ1 σs s) xs a
 |_,_=>False
theorem VM.mono(h:Mo s s'){x y:TV}(c:VM m σ1 σs s x y):VM m σ1 σs s' x y:=by
 cases x with
 |c x => cases y with
  |c y=>exact CM.mono h c
  |_=>exact c.elim
 |agg i => cases y with
  |agg j=>exact aC.mono (λ_ _=>CM.mono h) c
  |_=>exact c.elim
 |aI i=>exact c.elim
theorem YH:∀{cs:List CC}{xs:List TC}{a:aI cs},AD cs (xs.map (zi σ1))=some a->(∀x∈xs,GC σ1 x)->(∀b∈gV xs,∃(i:Nat)(l:List (TT i))(f j:Nat),σ1[b]? = some (.row i l f j))/\∀m σs s,(∀b∈gV xs,b∈s.fz)->aC (CM m σ1 σs s) xs (sR cs a):=by
 intro cs;induction cs with
 |nil=>
  intro xs a h g;cases xs with
  |nil=>exact ⟨by simp[gV],λm σs s _=>.nil⟩
  |cons x xs=>grind [AD]
 |cons c cs ih=>
  intro xs a h g;cases xs with
  |nil=>grind [AD]
  |cons x xs=>
   simp only[iH,AD] at h;split at h
   ·rename_i v z k o;simp only[aj] at h;subst h;obtain ⟨A,p⟩:=MA k (g x (iz ..));obtain ⟨E,q⟩:=ih o λy u=>g y (h_ _ u);have e:∀b,b∈gV (x::xs)↔b∈gV [x]∨b∈gV xs:=by
     intro b;cases x <;> simp[gV]
    refine ⟨λb d=>?_,λm σs s hs=>.cons (p m σs s λb d=>hs b ((e b).2 (.inl d))) (q m σs s λb d=>hs b ((e b).2 (.inr d)))⟩
    grind
   simp_all
theorem mRO_ok{p:RO}{v:TV}(h:mRO m σ1 p v s=some s')(g:GV σ1 v):∃N,s'.cl=s.cl++N/\s'.rw=s.rw/\Mo s s'/\(MI m σ1 s->MI m σ1 s')/\∀σs d y r,vV σs p (N++d)=some (y,r)->r=d/\VM m σ1 σs s' v y:=by
 unfold mRO at h;split at h
 ·rename_i c;split at h
  ·rename_i a k;simp only[aj] at h;subst h;cases v with
   |c x=>
    obtain ⟨o,u⟩:=MA (c:=c) k g;refine ⟨_,rfl,rfl,⟨λ_ _ h=>h,λ_ h=>Wy _ h⟩,λI=>⟨I.ge,λb l=>?_⟩,λσs d y r f=>?_⟩
    ·rcases mw.1 l with l | l
     ·exact o b l
     ·exact I.fz b l
    ·simp only[List.singleton_append,vV,Cq,aj,aM] at f;obtain ⟨rfl,rfl⟩:=f;exact ⟨rfl,u m σs _ λb l=>Ri _ l⟩
   |agg q=>grind [eV,oD,GF]
   |aI q=>grind [eV,oD,GF]
  simp_all
 ·rename_i i;split at h
  ·rename_i a k;simp only[aj] at h;subst h;cases v with
   |c x=>grind [eV,oD,zw]
   |aI x=>grind [eV,oD,zw]
   |agg q=>
    simp only[eV,oD,zw] at k;split at k
    ·rename_i t R;simp only[aj] at k;subst k;obtain ⟨o,u⟩:=YH R g;refine ⟨_,rfl,rfl,⟨λ_ _ h=>h,λ_ h=>Wy _ h⟩,λI=>⟨I.ge,λb l=>?_⟩,λσs d y r f=>?_⟩
     ·rcases mw.1 l with l | l
      ·exact o b l
      ·exact I.fz b l
     ·simp only[List.singleton_append,vV,Cq,aj,aM] at f;obtain ⟨rfl,rfl⟩:=f;refine ⟨rfl,?_⟩;show aC _ q (sR _ _);rw[Y.pm];exact u m σs _ λb l=>Ri _ l
    simp_all
  simp_all
 ·rename_i i;split at h
  ·rename_i a k;simp only[aj] at h;subst h;refine ⟨_,rfl,rfl,⟨λ_ _ h=>h,λ_ h=>h⟩,λI=>⟨I.ge,I.fz⟩,λσs d y r f=>?_⟩;simp only[List.singleton_append,vV,Cq,aj,aM] at f;obtain ⟨rfl,rfl⟩:=f;refine ⟨rfl,?_⟩;cases v with
   |c x=>
    cases x with
    |fp j b off=>
     simp only[eV,zi,oD] at k;unfold zx at k;split at k
     ·rename_i U W O;simp only[TV.c.injEq,TC.fp.injEq] at O;obtain ⟨rfl,u,rfl⟩:=O;cases u;split at k
      ·rename_i e _;subst e;simp only[aj] at k;subst k;exact .inl ⟨λ_ _ _ _ _ h=>h,rfl,.inr rfl⟩
      simp_all
     simp_all
    |own j b v n=>
     exfalso;simp only[eV,zi,oD] at k;split at k
     ·split at k <;> simp[zx] at k
     grind [zx]
    |_=>grind [eV,zi,oD,zx]
   |agg q=>grind [eV,oD,zx]
   |aI q=>grind [eV,oD,zx]
  simp_all
 ·rename_i p x;obtain ⟨L,z,A,E,G,K⟩:=LX h g;refine ⟨L,z,A,E,G,λσs d y r f=>?_⟩;simp only[vV] at f;split at f
  ·rename_i S T o;simp only[aj,aM] at f;obtain ⟨rfl,rfl⟩:=f;exact K σs d _ _ o
  simp_all
 ·rename_i X q;obtain ⟨L,z,A,E,G,K⟩:=NG h g;refine ⟨L,z,A,E,G,λσs d y r f=>?_⟩;simp only[vV] at f;split at f
  ·rename_i S T o;simp only[aj,aM] at f;obtain ⟨rfl,rfl⟩:=f;exact K σs d _ _ o
  simp_all
 simp_all
theorem XA:∀{ps:List RO}{xs:List TV}{s s':MS},FO m σ1 ps xs s=some s'->(∀x∈xs,GV σ1 x)->∃f,s'.cl=s.cl++f/\s'.rw=s.rw/\Mo s s'/\(MI m σ1 s->MI m σ1 s')/\∀σs a d r,jr σs ps (f++a)=some (d,r)->r=a/\aC (VM m σ1 σs s') xs d:=by
 intro ps;induction ps with
 |nil=>
  intro xs s s' h g;cases xs with
  |nil=>simp only[FO,aj] at h;subst h;refine ⟨[],by simp,rfl,Mo.refl s,id,λσs a d r b=>?_⟩;simp only[List.nil_append,jr,aj,aM] at b;obtain ⟨rfl,rfl⟩:=b;exact ⟨rfl,.nil⟩
  |cons x xs=>grind [FO]
 |cons p ps ih=>
  intro xs s s' h g;cases xs with
  |nil=>grind [FO]
  |cons x xs=>
   simp only[FO] at h;split at h
   ·rename_i s1 j;obtain ⟨k,N,O,l,o,q⟩:=mRO_ok j (g x (iz ..));obtain ⟨u,R,S,i,v,z⟩:=ih h λy b=>g y (h_ _ b);refine ⟨k++u,by grind,by grind,l.trans i,λI=>v (o I),λσs a d r b=>?_⟩;rw[PI] at b;simp only[jr] at b;split at b
    ·rename_i y A E;obtain ⟨rfl,c1⟩:=q σs _ y A E;split at b
     ·rename_i G T K;simp only[aj,aM] at b;obtain ⟨rfl,rfl⟩:=b;obtain ⟨e,L⟩:=z σs _ _ _ K;exact ⟨e,.cons (c1.mono i) L⟩
     grind
    grind
   simp_all
end
end Go.Abs
end
section
namespace Go.Abs
noncomputable section
variable[Gl][Y:Ty]
def rO(x y:TB):Prop:=(∃(i:Nat)(l:List (TT i))(d e a b:Nat),x=.row i l d e/\y=.row i l a b)∨(∃(j:Nat)(st:Bool)(l:List (Int×TT j))(v f:Nat),x=.mp j st l v/\y=.mp j st l f)
def PC.rw:PC->Bool
 |.h ..=>false
 |_=>true
variable{m:Nat}{σ σ1 σs:TH}{s s':MS}
theorem YJ (hg:∀(b:Nat) w cs,σ1[b]? = some (.cells w cs)→∀p∈cs,GC σ1 p.2):∀{ps:List PC} {s s':MS},Da m σ σ1 ps s=some s' →
  ∃ L Lc, s'.rw = s.rw ++ L ∧ s'.cl = s.cl ++ Lc ∧ Mo s s' ∧ (MI m σ1 s → MI m σ1 s') ∧ (∀ p ∈ ps, p.blk < m) ∧
   (∀f d E r,bG f ps (L++d)=some (E,r)→r=d∧∀b:Nat,((∀p∈ps,p.rw=true→p.blk≠b)∧E[b]? = f[b]?)∨∃x y,σ1[b]? = some x∧E[b]? = some y∧rO x y) ∧
   (∀σs f d σ' r,du σs ps f (Lc++d)=some (σ',r)→(∀(b:Nat) w cs w1 u,f[b]? = some (.cells w cs)→σ1[b]? = some (.cells w1 u)→cs.length=u.length)→r=d ∧
    (∀(b j:Nat) p,PC.h b j p∈ps→∃w cs w' k x y,σ1[b]? = some (.cells w cs)∧σ'[b]? = some (.cells w' k)∧cs[j]? = some x∧k[j]? = some y∧CM m σ1 σs s' x.2 y.2) ∧
    (∀(b:Nat) w cs,f[b]? = some (.cells w cs)→∃w' k,σ'[b]? = some (.cells w' k)∧∀j:Nat,(∀p,PC.h b j p∉ps)→k[j]? = cs[j]?)):=by
 intro ps
 induction ps with
 | nil =>
  intro s s' h
  simp only [Da,aj] at h
  subst h
  refine ⟨[],[],by simp,by simp,Mo.refl s,id,by simp,fun f d E r h=>?_,fun σs f d σ' r h _=>?_⟩
  ·simp only [List.nil_append,bG,aj,aM] at h
   simp_all
  ·simp only [List.nil_append,du,aj,aM] at h
   grind
 | cons p ps ih =>
  intro s s' h
  cases p with
  | h b j p =>
   simp only [Da] at h
   split at h
   ·rename_i w1 u N z
    split at h
    ·rename_i x hx
     split at h
     ·rename_i s1 h1
      obtain ⟨L1,a1,a2,a3,a4,a5⟩:=LX h1 (hg b w1 u N x (vB hx))
      obtain ⟨L,O,T,U,K,R,b5,W,X⟩:=ih h
      refine ⟨L,L1++O,by grind,by grind,a3.trans K,fun I=>R (a4 I),fun q o=>?_,fun f d E r h=>?_,fun σs f d σ' r h Z=>?_⟩
      ·rcases eU.1 o with rfl | o
       ·exact qK.mp z
       grind
      ·grind [bG,PC.rw]
      ·rw [PI] at h
       simp only [du] at h
       split at h
       ·rename_i y r' w0 aa h2 h3
        obtain ⟨rfl,c1⟩:=a5 σs _ y r' h2
        have af:=Z b w0 aa w1 u h3 N
        obtain ⟨e,d1,d2⟩:=X σs _ d σ' r h fun v w cs w2 ak A e2=>by
         grind
        refine ⟨e,fun v j' p' hp=>?_,fun v w cs A=>?_⟩
        ·by_cases an:∃q,PC.h v j' q∈ps
         ·grind
         ·rcases eU.1 hp with A | hp
          ·simp only [PC.h.injEq] at A
           obtain ⟨rfl,rfl,rfl⟩:=A
           obtain ⟨w',k,e2,e3⟩:=d2 v _ _ (EI h3)
           refine ⟨w1,u,w',k,x,(w0+1,y),N,e2,hx,?_,c1.mono K⟩
           grind
          grind
        ·by_cases g:v=b
         ·subst g
          rw [h3] at A
          simp only [aj,TB.cells.injEq] at A
          grind [EI]
         ·obtain ⟨w',k,e2,e3⟩:=d2 v w cs (by grind)
          grind
       grind
     grind
    grind
   grind
  | w b i =>
   simp only [Da] at h
   split at h
   ·rename_i i0 l0 ax a0 N z
    split at h
    ·rename_i a ha
     obtain ⟨e,rfl⟩:=OJ ha
     subst e
     obtain ⟨L,O,T,U,K,R,b5,W,X⟩:=ih h
     refine ⟨_::L,O,by rw [T,PI]; rfl,U,⟨K.Hl,K.fz⟩,fun I=>R ⟨I.ge,I.fz⟩,fun q o=>?_,fun f d E r h=>?_,fun σs f d σ' r h Z=>?_⟩
     ·rcases eU.1 o with rfl | o
      ·exact qK.mp z
      grind
     ·simp only [List.cons_append,bG,Cq] at h
      split at h
      ·rename_i l j l1 a6 a7 S A
       simp only [aj] at S
       subst S
       split at h
       ·obtain ⟨e,c1⟩:=W _ d E r h
        refine ⟨e,fun v=>?_⟩
        rcases c1 v with ⟨c1,G⟩ | c1
        ·by_cases g:v=b
         ·subst g
          rw [EI A] at G
          exact .inr ⟨_,_,N,G,.inl ⟨_,_,_,_,_,_,rfl,rfl⟩⟩
         ·rw [Ru g] at G
          refine .inl ⟨fun q o hr=>?_,G⟩
          rcases eU.1 o with rfl | o
          ·exact fun e=>g e.symm
          grind
        grind
       grind
      grind
     grind [du]
    grind
   grind
  | m b i st =>
   simp only [Da] at h
   split at h
   ·rename_i i0 ab l0 v0 N z
    split at h
    ·rename_i a ad ha
     obtain ⟨e,rfl⟩:=vx ha
     subst e
     have:st=ab:=eq_of_beq ad
     subst this
     obtain ⟨L,O,T,U,K,R,b5,W,X⟩:=ih h
     refine ⟨_::L,O,by rw [T,PI]; rfl,U,⟨K.Hl,K.fz⟩,fun I=>R ⟨I.ge,I.fz⟩,fun q o=>?_,fun f d E r h=>?_,fun σs f d σ' r h Z=>?_⟩
     ·rcases eU.1 o with rfl | o
      ·exact qK.mp z
      grind
     ·simp only [List.cons_append,bG,Cq] at h
      split at h
      ·rename_i l j0 a8 l1 v1 S A
       simp only [aj] at S
       subst S
       obtain ⟨e,c1⟩:=W _ d E r h
       refine ⟨e,fun v=>?_⟩
       rcases c1 v with ⟨c1,G⟩ | c1
       ·by_cases g:v=b
        ·subst g
         rw [EI A] at G
         exact .inr ⟨_,_,N,G,.inr ⟨_,_,_,_,_,rfl,rfl⟩⟩
        ·rw [Ru g] at G
         refine .inl ⟨fun q o hr=>?_,G⟩
         rcases eU.1 o with rfl | o
         ·exact fun e=>g e.symm
         grind
       grind
      grind
     grind [du]
    grind
   grind
theorem YM (hg:∀(b:Nat) w cs,σ1[b]? = some (.cells w cs)→∀p∈cs,GC σ1 p.2):∀{f:List NB} {b:Nat} {s s':MS},BS m σ1 b f s=some s' →
  ∃ L Z, s'.rw = s.rw ++ L ∧ s'.cl = s.cl ++ Z ∧ Mo s s' ∧ (MI m σ1 s → MI m σ1 s') ∧
   (∀d l r,cS f (L++d)=some (l,r)→r=d∧∀(k:Nat) nb,f[k]? = some nb→(∀ps,nb≠.cells ps)→∃j x y,mU (b+k) s'.ρ=some j∧σ1[j]? = some x∧l[k]? = some y∧rO x y) ∧
   (∀σs g d l,de σs f g (Z++d)=some l→∀(k:Nat) nb,f[k]? = some nb →
    (∀ps,nb=.cells ps→∃j w cs ys,mU (b+k) s'.ρ=some j∧σ1[j]? = some (.cells w cs)∧l[k]? = some (.cells 0 ys)∧aC (CM m σ1 σs s') (cs.map Prod.snd) (ys.map Prod.snd)) ∧
    ((∀ps,nb≠.cells ps)→l[k]? = g[k]?)):=by
 intro f
 induction f with
 | nil =>
  intro b s s' h
  simp only [BS,aj] at h
  subst h
  refine ⟨[],[],by simp,by simp,Mo.refl s,id,fun d l r h=>?_,fun σs g d l h k nb hk=>by grind⟩
  grind [cS]
 | cons nb f ih =>
  intro b s s' h
  have sh:∀k:Nat,b+(k+1)=b+1+k:=fun k=>by omega
  cases nb with
  | cells ps =>
   simp only [BS] at h
   split at h
   ·rename_i j o
    split at h
    ·rename_i w cs v
     split at h
     ·rename_i s1 h1
      obtain ⟨L1,a1,a2,a3,a4,a5⟩:=NG h1 (fun x hx=>by
       grind)
      obtain ⟨L,z,K,N,q,A,O,R⟩:=ih h
      refine ⟨L,L1++z,by grind,by grind,a3.trans q,fun I=>A (a4 I),fun d l r h=>?_,fun σs g d l h k nb hk=>?_⟩
      ·simp only [cS] at h
       grind
      ·rw [PI] at h
       cases g with
       | nil=>grind [de]
       | cons b0 g =>
        simp only [de] at h
        split at h
        ·rename_i xs r' E
         split at h
         ·rename_i u S
          simp only [aj] at h
          subst h
          obtain ⟨rfl,c1⟩:=a5 σs _ _ _ E
          have c2:=R σs g d u S
          cases k with
          | zero =>
           simp only [List.getElem?_cons_zero,aj] at hk
           subst hk
           refine ⟨fun aa e=>?_,fun T=>absurd rfl (T ps)⟩
           refine ⟨j,w,cs,_,q.Hl _ _ (a3.Hl _ _ o),v,by rw [List.getElem?_cons_zero],?_⟩
           rw [Q_]
           have:(Prod.snd∘fun x:TC=>(0,x))=id:=rfl
           rw [this,List.map_id]
           grind [aC.mono,CM.mono]
          | succ k =>
           grind
         grind
        grind
     grind
    grind
   grind
  | row i =>
   simp only [BS] at h
   split at h
   ·rename_i j o
    split at h
    ·rename_i i0 l0 ab ad v
     split at h
     ·rename_i a U
      obtain ⟨e,rfl⟩:=OJ U
      subst e
      obtain ⟨L,z,K,N,q,A,O,R⟩:=ih h
      refine ⟨_::L,z,by rw [K,PI]; rfl,N,⟨q.Hl,q.fz⟩,fun I=>A ⟨I.ge,I.fz⟩,fun d l r h=>?_,fun σs g d l h k nb hk=>?_⟩
      ·simp only [List.cons_append,cS,Cq] at h
       split at h
       ·rename_i a' u r' G E
        simp only [aj,aM] at h G
        subst G
        obtain ⟨rfl,rfl⟩:=h
        obtain ⟨e,c1⟩:=O d u _ E
        refine ⟨e,fun k nb hk T=>?_⟩
        cases k with
        | zero=>exact ⟨j,_,_,q.Hl _ _ o,v,by rw [List.getElem?_cons_zero],.inl ⟨_,_,_,_,_,_,rfl,rfl⟩⟩
        | succ k=>grind
       grind
      ·cases g with
       | nil=>grind [de]
       | cons b0 g =>
        simp only [de] at h
        split at h
        ·rename_i u S
         simp only [aj] at h
         grind
        grind
     grind
    grind
   grind
  | mp i st =>
   simp only [BS] at h
   split at h
   ·rename_i j o
    split at h
    ·rename_i i0 W l0 v0 v
     split at h
     ·rename_i a X U
      obtain ⟨e,rfl⟩:=vx U
      subst e
      have:st=W:=eq_of_beq X
      subst this
      obtain ⟨L,z,K,N,q,A,O,R⟩:=ih h
      refine ⟨_::L,z,by rw [K,PI]; rfl,N,⟨q.Hl,q.fz⟩,fun I=>A ⟨I.ge,I.fz⟩,fun d l r h=>?_,fun σs g d l h k nb hk=>?_⟩
      ·simp only [List.cons_append,cS,Cq] at h
       split at h
       ·rename_i a' u r' G E
        simp only [aj,aM] at h G
        subst G
        obtain ⟨rfl,rfl⟩:=h
        obtain ⟨e,c1⟩:=O d u _ E
        refine ⟨e,fun k nb hk T=>?_⟩
        cases k with
        | zero=>exact ⟨j,_,_,q.Hl _ _ o,v,by rw [List.getElem?_cons_zero],.inr ⟨_,_,_,_,_,rfl,rfl⟩⟩
        | succ k=>grind
       grind
      ·cases g with
       | nil=>grind [de]
       | cons b0 g =>
        simp only [de] at h
        split at h
        ·rename_i u S
         simp only [aj] at h
         subst h
         have c2:=R σs g d u S
         cases k with
         | zero =>
          grind
         | succ k =>
          grind
        grind
     grind
    grind
   grind
end
end Go.Abs
end
