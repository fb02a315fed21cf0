/- DfwMv, DfwSc, DfwRs, DfwRz, DfwPl, DfwPm, DfwPn, DfwPo, DfwPq -/
import Derived.Test.YtmaocdlpgdadnaaGreatFwE
import Derived.ScopeJumps
import Derived.Test.YtmaocdlpgdadnaaGreatFwD
set_option linter.all false
section
namespace Go.Abs
noncomputable section
variable[Gl][Y:Ty]
section
def Mh(M:Nat->Option Nat)(r t:Nat):Nat->Option Nat:=λb=>if b=t then M r else if b=r then none else M b
theorem Vy{M:Nat->Option Nat}{Fz:Nat->Prop}{r t:Nat}:Bp M Fz (Mh M r t) Fz:=⟨λb c h=>by
 unfold Mh at h;split at h
 ·exact ⟨r,h⟩
 ·split at h
  ·cases h
  ·exact ⟨b,h⟩,λc h=>.inl h,λc h=>h⟩
def Mr(r t:Nat)(σ1 am:aa):Prop:=∀b d,b≠t->σ1[b]? = some d->∃a,am[b]? = some a/\d.sz<=a.sz/\(b=r->d.sz<a.sz)/\(b≠r->a.sz=d.sz)
def fQ(r t:Nat)(σ1 am:aa)(d1 d2:D):Prop:=∀(M:Nat->Option Nat)(Fz:Nat->Prop)(w:World)(v:Value),V σ1 M Fz w d1 v->V am (Mh M r t) Fz w d2 v
variable{r t:Nat}{σ1 am:aa}
theorem fQ.any(d:D):fQ r t σ1 am d .any:=λ_ _ _ v _=>.any v
theorem fQ.c(x:C):fQ r t σ1 am (.c x) (.c x):=λ_ _ _ v h=>by
 cases h with
 |c h=>exact .c h
theorem fQ.ptr(S:Mr r t σ1 am){b off sz:Nat}(o:b≠t):fQ r t σ1 am (.ptr b off sz) (.ptr b off sz):=λM Fz w v h=>by
 cases h with
 |ptr a u h i A=>
  obtain ⟨j,x,z,E,G⟩:=S b u o h;refine .ptr a j x (jI i z) λK=>?_;by_cases e:b=r
  ·omega
  grind [Mh]
theorem fQ.sl(S:Mr r t σ1 am){b off len es sz:Nat}(z:b≠t):fQ r t σ1 am (.sl b off len es sz) (.sl b off len es sz):=λM Fz w v h=>by
 cases h with
 |sl a n cap i A h j E=>
  obtain ⟨u,G,K,O,R⟩:=S b A z h;refine .sl a n cap i u G (jI j K) λU=>?_;by_cases e:b=r
  ·omega
  ·rcases E (by omega) with q | ⟨c,o,x,T,W,L⟩
   ·simp_all
   ·exact .inr ⟨c,o,x,T,by grind [Mh],L⟩
theorem fQ.low(S:Mr r t σ1 am){d:D}(j:d.low t=true):fQ r t σ1 am d d:=by
 intro M Fz w v h;induction h with
 |c h=>exact .c h
 |any v=>exact .any v
 |ptr a z h o u=>simp only[D.low,aM] at j;exact fQ.ptr S (by omega) M Fz w _ (.ptr a z h o u)
 |sl a n cap E z h o u=>simp only[D.low,aM] at j;exact fQ.sl S (by omega) M Fz w _ (.sl a n cap E z h o u)
 | @mp b c z h u=>
  simp only[D.low,aM] at j;obtain ⟨G,x,O,U,W⟩:=S b z (by omega) h;refine .mp c G x λX=>?_;by_cases e:b=r
  ·omega
  grind [Mh]
 |fn A R x O u Z K L=>simp only[D.low,aU] at j;exact .fn A R x O (λi d v a b=>K i d v a b (D.aE j.1 i d a)) (λi d v a b=>L i d v a b (D.aE j.2 i d a))
 |agg A x u ih=>simp only[D.low] at j;exact .agg A x (λi d v a b=>ih i d v a b (D.aE j i d a))
 |aB A x u ih=>simp only[D.low] at j;exact .aB A x (λi d v a b=>ih i d v a b (D.aE j i d a))
theorem fQ.agg{ds es:List D}(h:ar (fQ r t σ1 am) ds es):fQ r t σ1 am (.agg ds) (.agg es):=λM Fz w v j=>by
 cases j with
 |agg o u j=>refine .agg o (by rw[u,h.len]) λi d v a b=>?_;obtain ⟨x,z,A⟩:=h.get' i d a;exact A M Fz w v (j i x v z b)
theorem fQ.aB{ds es:List D}(h:ar (fQ r t σ1 am) ds es):fQ r t σ1 am (.aB ds) (.aB es):=λM Fz w v j=>by
 cases j with
 |aB o u j=>refine .aB o (by rw[u,h.len]) λi d v a b=>?_;obtain ⟨x,z,A⟩:=h.get' i d a;exact A M Fz w v (j i x v z b)
theorem fQ.own{es n:Nat}{cs:List D}(x:σ1[r]? = some (.cells cs))(z:am[t]? = some (.cells cs))(K:n * es=cs.length):fQ r t σ1 am (OS es r n) (OS es t n):=λM Fz w v h=>by
 cases h with
 |sl a n cap i L h j A=>
  rw[x] at h;simp only[ab] at h;subst h;refine .sl a n cap i _ z j λE=>?_;rcases A E with q | ⟨c,o,u,T,O,G⟩
  ·simp_all
  ·exact .inr ⟨c,o,u,T,by grind [Mh],G⟩
def Us(r t:Nat)(σ1 am:aa):Ob->Ob->Prop
 |.cells ds,ob=>∃a,ob=.cells a/\ar (fQ r t σ1 am) ds a
 |.map a k,ob=>ob=.map a k/\(a.all λe=>e.2.1.low t)=true
 |.gone k,ob=>ob=.gone k
theorem Us.sz{a b:Ob}(h:Us r t σ1 am a b):b.sz=a.sz:=by
 cases a with
 |cells ds=>obtain ⟨i,rfl,h⟩:=h;simp only[Ob.sz,h.len]
 |map i k=>obtain ⟨rfl,_⟩:=h;rfl
 |gone k=>cases h;rfl
theorem Wr{m:Nat}{K al2:AL}{cs:List D}(ak:r≠t)(hm:m<=t)(h1:σ1[r]? = some (.cells cs))(h2:am[t]? = some (.cells cs))(hc:∀d∈cs,∃c,d=D.c c)(S:Mr r t σ1 am)
  (W:∀b ob,b≠t->b≠r->σ1[b]? = some ob->∃g,am[b]? = some g/\Us r t σ1 am ob g) (hr:∀s d2,lk s al2=some d2->∃d1,lk s K=some d1/\fQ r t σ1 am d1 d2):lZ m K σ1 al2 am:=by
 refine ⟨by grind,λn M Fz w af R A=>⟨Mh M r t,Fz,⟨λb c f=>?_,λb b' c f a=>?_,R.fz,R.gl⟩,⟨A.1,λs d hs=>?_⟩,Vy,λσ0 M0 ax w0 R0 E hl=>?_⟩⟩
 ·unfold Mh at f;split at f
  ·rename_i e;subst e;obtain ⟨z,ob,o,q,G,l⟩:=R.blk r c f;rw[h1] at q;simp only[ab] at q;subst q;obtain ⟨j,T,L,p,N⟩:=l;refine ⟨z,_,o,h2,G,j,T,L,p,λi d v x y=>?_⟩;obtain ⟨O,U⟩:=N i d v x y;obtain ⟨k,rfl⟩:=hc d (sT x);exact ⟨fQ.c k M Fz w v O,U⟩
  ·split at f
   ·grind
   ·rename_i X e2;obtain ⟨z,ob,o,q,G,l⟩:=R.blk b c f;obtain ⟨g,q5,u⟩:=W b ob X e2 q;refine ⟨z,g,o,q5,G,?_⟩;cases ob with
    |cells ds=>obtain ⟨es,rfl,u⟩:=u;obtain ⟨j,T,L,p,N⟩:=l;refine ⟨j,T,L,by grind [ar.len],λi d v x y=>?_⟩;obtain ⟨d1,O,U⟩:=u.get' i d x;obtain ⟨Z,z4⟩:=N i d1 v O y;exact ⟨U M Fz w v Z,z4⟩
    |map es k=>obtain ⟨rfl,u⟩:=u;obtain ⟨j,L,p,N⟩:=l;refine ⟨j,L,p,λi k d n e x y=>?_⟩;obtain ⟨O,U,Z⟩:=N i k d n e x y;rw[eG] at u;exact ⟨O,U,fQ.low S (u (k,d,n) (sT x)) M Fz w _ Z⟩
    |gone n=>exact l.elim
 ·unfold Mh at f a;split at f
  ·split at a
   ·omega
   ·split at a
    ·simp_all
    ·have:=R.inj r b' c f a;omega
  ·split at f
   ·grind
   ·split at a
    ·have:=R.inj b r c f a;omega
    ·split at a
     ·simp_all
     ·exact R.inj b b' c f a
 ·obtain ⟨d1,z,q⟩:=hr s d hs;obtain ⟨v,G,l⟩:=A.2 s d1 z;exact ⟨v,G,q M Fz w v l⟩
 ·refine ⟨E.size,E.frame,λb c h=>?_,E.fz,E.jj,E.lm,λb ob f=>?_,E.out⟩
  ·unfold Mh at h;split at h
   ·exact E.hY r c h
   ·split at h
    ·simp at h
    ·exact E.hY b c h
  ·obtain ⟨ad,z,q,G⟩:=E.bX b ob f;have a0:=(dT.1 f).1;have X:b≠t:=by omega
   obtain ⟨g,l,q5,u,q7⟩:=S b ad X z;refine ⟨g,l,by omega,λhe=>?_⟩;by_cases e:b=r
   ·omega
   grind [Mh]
end
theorem Qo{m:Nat}{al:AL}{σ:aa}{ob:Ob}(hm:m<=σ.length):lZ m al σ al (σ++[ob]):=by
 have zt:ju σ (σ++[ob]):=λb a h=>⟨a,by grind,rfl⟩;refine ⟨by grind,λn M Fz w O R A=>⟨M,Fz,⟨λb c G=>?_,R.inj,R.fz,R.gl⟩,⟨A.1,λs d hs=>?_⟩,Bp.refl,λσ0 Z W w0 R0 E l=>?_⟩⟩
 ·obtain ⟨S,a,o,U,u,j⟩:=R.blk b c G;obtain ⟨K,q5,q6⟩:=zt b a U;refine ⟨S,a,o,by grind,u,?_⟩;have g:∀{d v},V σ M Fz w d v->V (σ++[ob]) M Fz w d v:=λh=>h.sub zt (λ_ _ h=>h) (λc h=>⟨h,rfl⟩) (λc f T X h=>⟨f,h,rfl⟩);cases a with
  |cells cs=>obtain ⟨f,T,L,l,z⟩:=j;exact ⟨f,T,L,l,λi d v x y=>⟨g (z i d v x y).1,(z i d v x y).2⟩⟩
  |map es N=>obtain ⟨f,L,l,z⟩:=j;exact ⟨f,L,l,λi k d n e x y=>let ⟨p,q,r⟩:=z i k d n e x y;⟨p,q,g r⟩⟩
  |gone n=>exact j.elim
 ·obtain ⟨v,u,j⟩:=A.2 s d hs;exact ⟨v,u,j.sub zt (λ_ _ h=>h) (λc h=>⟨h,rfl⟩) (λc f T X h=>⟨f,h,rfl⟩)⟩
 ·refine ⟨E.size,E.frame,E.hY,E.fz,E.jj,E.lm,λb a G=>?_,E.out⟩;obtain ⟨K,S,U,u⟩:=E.bX b a G
  grind
theorem lZ.le{m m':Nat}{i al2:AL}{σ1 am:aa}(h:lZ m i σ1 al2 am)(hm:m'<=m):lZ m' i σ1 al2 am:=⟨jI hm h.1,λn M' Fz' w' j R A=>by
 obtain ⟨o,u,x,z,E,G⟩:=h.2 n M' Fz' w' j R A;refine ⟨o,u,x,z,E,?_⟩
 grind⟩
section
variable{P:Program}{n:Nat}{al0 al al2:AL}{σ0 σ am:aa}{Q:jr->AL->aa->Prop}
def vP(P:Program)(ac:az)(k:Nat)(n:Nat)(σ0:aa)(al:AL)(σ:aa)(Q:jr->AL->aa->Prop):Prop:=
 ∀ (c : Code), aS P c = some ac -> ∀ (g : Nat -> Option Nat) (b : Nat -> Prop) (d : World) (M : Nat -> Option Nat) (Fz : Nat -> Prop) (w : World) (a : Act) (K : Exit -> Act -> World -> Prop), Rel σ0 g b d -> Rel σ M Fz w -> dq n σ M Fz w al a.tmps ->
  aW σ0 g b d σ M Fz w->σ0.length<=σ.length->∀e,Mk d.heap.size M Fz w a.defers e ->
  (∀x f σ' h w' M' Fz',Q x f σ'->Mk d.heap.size M' Fz' w' h.defers e->Rel σ' M' Fz' w'->dq n σ' M' Fz' w' f h.tmps->aW σ0 g b d σ' M' Fz' w'->σ0.length<=σ'.length->K (sX x) h w')->Code.rq P c K k a w
theorem vP.start{ac:az}{k:Nat}(hs:lZ σ0.length al0 σ0 al σ)(h:vP P ac k n σ0 al σ Q):iU P ac k n al0 σ0 Q:=by intro c i M Fz w a K R A j;obtain ⟨o,u,x,z,E,G,L⟩:=hs.use R R A (aW.refl R) (bQ _);exact h c i M Fz w o u w a K R x z E G a.defers (Mk.refl _ _) j
theorem vP.succ{b:az}{k:Nat}(h:Sem P b n al σ λx j σ1=>match x with | .normal=>∃al2 am,lZ σ0.length j σ1 al2 am/\vP P b k n σ0 al2 am Q | x=>Q x j σ1):vP P b (k+1) n σ0 al σ Q:=by
 intro c G M0 o w0 M Fz w u K L R A O U z E W;rw[Dd];refine h c G M Fz w u _ R A λx j σ1 X w' M' Fz' Z hd R' A' E' hl=>?_;have E1:=O.trans E' U;have hd:=Mk.trans E' O.size E hd;cases x with
 |normal=>obtain ⟨al2,am,hw,hs⟩:=Z;obtain ⟨M2,F2,R2,A2,E2,l2,W2⟩:=hw.use L R' A' E1 (bQ _);exact hs c G M0 o w0 M2 F2 w' X K L R2 A2 E2 l2 z (hd.Sp W2) W
 |exit i=>grind [lA]
 |ret=>exact W .ret j σ1 X w' M' Fz' Z hd R' A' E1 (jI U hl)
end
section
variable{σ σ1:TH}{σD:aa}{alD:AL}{t r:Nat}
theorem vD{x:TC}{d:D}{σ1 am:aa}(S:Mr r t σ1 am)(l:RC x d)(f:UG t x=true):fQ r t σ1 am d x.er:=by
 rcases l with rfl | rfl
 ·exact fQ.any _
 have j:∀{b:Nat},(!Nat.beq b t)=true->b≠t:=λh e=>by simp_all
 cases x with
 |any=>exact fQ.any _
 |d x=>exact fQ.low S f
 |own i b v n=>exact fQ.sl S (j f)
 |op i b v n k a off=>exact fQ.ptr S (j f)
 |ap b off len sz k=>exact fQ.ptr S (j f)
 |os i b v n o len=>exact fQ.sl S (j f)
 |zq g p=>exact fQ.low S (uH f)
 |_=>exact fQ.c _
theorem IN{x:TC}{d:D}{σ1 am:aa}(S:Mr r t σ1 am)(a:RC x d):fQ r t σ1 am d (Hl t x).er:=by
 unfold Hl;split
 ·grind [vD]
 ·exact fQ.any _
theorem Ba{σ':TH}(a:Ext σ σ'){x:TC}(h:GC σ x):GC σ' (Hl t x):=by
 unfold Hl;split
 ·exact h.mono a
 ·exact True.intro
theorem Qk{xs:List TC}{ds:List D}{σ1 am:aa}(S:Mr r t σ1 am)(a:ar RC xs ds):∃es,ar (fQ r t σ1 am) ds es/\ar RC (xs.map (Hl t)) es:=by
 induction a with
 |nil=>exact ⟨[],.nil,.nil⟩
 |cons h _ ih=>obtain ⟨es,b,d⟩:=ih;exact ⟨_::es,.cons (IN S h) b,.cons (.inr rfl) d⟩
theorem Su{al a:TA}{x:RV}{d:D}{σ1 am:aa}{σ':TH}(e:Ext σ σ')(S:Mr r t σ1 am)(f:RR x d)(h:GW al σ x):∃b,fQ r t σ1 am d b/\RR (zQ t x) b/\GW a σ' (zQ t x):=by
 have any:∃b,fQ r t σ1 am d b/\RR (.v (.c .any)) b/\GW a σ' (.v (.c .any)):=⟨.any,fQ.any _,Or.inl rfl,True.intro⟩;cases x with
 |g c w p x=>exact any
 |v x=>
  cases x with
  |c x=>exact ⟨_,IN S f,Or.inr rfl,Ba (x:=x) e h⟩
  |aB j=>exact any
  |agg j=>obtain ⟨ds,rfl,k⟩:=f;obtain ⟨l,o,q⟩:=Qk S k;refine ⟨_,fQ.agg o,⟨l,rfl,q⟩,λx i=>?_⟩;rw[gZ] at i;obtain ⟨y,u,rfl⟩:=i;exact Ba e (h y u)
theorem NQ{x:TV}{d:D}{σ1 am:aa}(S:Mr r t σ1 am)(j:RT x d)(b:nrV t x=true):∃u,fQ r t σ1 am d u/\RT x u:=by
 have v:∀{e:List TC}{ds:List D},ar RC e ds->e.all (UG t)=true->∃a,ar (fQ r t σ1 am) ds a/\ar RC e a:=by
  intro e ds h;induction h with
  |nil=>intro _;exact ⟨[],.nil,.nil⟩
  |cons h _ ih=>intro b;simp only[List.all_cons,aU] at b;obtain ⟨a,g,i⟩:=ih b.2;exact ⟨_::a,.cons (vD S h b.1) g,.cons (.inr rfl) i⟩
 cases x with
 |c x=>exact ⟨_,vD S j b,Or.inr rfl⟩
 |agg e=>obtain ⟨ds,rfl,k⟩:=j;obtain ⟨a,g,i⟩:=v k b;exact ⟨_,fQ.agg g,a,rfl,i⟩
 |aB e=>
  obtain ⟨ds,rfl,k⟩:=j;have:∃a,ar (fQ r t σ1 am) ds a/\ar RE e a:=by
   simp only[nrV] at b;induction k with
   |nil=>exact ⟨[],.nil,.nil⟩
   | @cons p d e ds h _ ih=>
    simp only[List.all_cons,aU] at b;obtain ⟨a,g,i⟩:=ih b.2;obtain ⟨f,G⟩:=p;cases f with
    |true=>obtain ⟨z,rfl,l⟩:=h;obtain ⟨o,A,E⟩:=v l (by simp_all);exact ⟨_::a,.cons (fQ.agg A) g,.cons ⟨o,rfl,E⟩ i⟩
    |false=>
     obtain ⟨y,rfl,l⟩:=h;have q:UG t y=true:=by simp_all
     exact ⟨_::a,.cons (vD S l q) g,.cons ⟨y,rfl,.inr rfl⟩ i⟩
  obtain ⟨a,g,i⟩:=this;exact ⟨_,fQ.aB g,a,rfl,i⟩
theorem VW{x:RV}{d:D}{σ1 am:aa}(S:Mr r t σ1 am)(a:RR x d)(b:nrR t x=true):∃e,fQ r t σ1 am d e/\RR x e:=by
 cases x with
 |g c w p x=>
  by_cases h:c=w
  ·simp only[RR,if_pos h] at a ⊢;exact NQ S a b
  ·simp only[RR,if_neg h] at a ⊢;subst a;exact ⟨.aB [],fQ.low S rfl,rfl⟩
 |v x=>exact NQ S a b
theorem On(σ:TH)(t:Nat):Ext σ (σ.map (re t)):=λb blk h=>by
 refine ⟨re t blk,by simp_all,?_⟩;cases blk with
 |row i l a d=>exact BE.refl _
 |mp j st l v=>exact BE.refl _
 |cells w f=>
  refine ⟨w+1,_,rfl,Nat.le_succ _,by simp,λj v x g k e o=>?_⟩
  grind [zK]
theorem ID(i:Nat)(l:List (TT i)):(OB (enc i) l).sz<(OB (enc i) (l++[Dt i])).sz:=by have h:0<ai i:=Y.ps i;simp only[Ob.sz,OB,vN,List.flatMap_append,vU,Vl,List.flatMap_nil,DA,nh];omega
theorem RZ{al:TA}{s:Nat}{x:RV}{p:Nat}:∀{pre:TA},dt s (pre.map (λp=>(p.1,zQ t p.2))++al)=some (x,p) ->
  (∃a,dt s (pre++al)=some (a,p)/\x=zQ t a)∨(dt s (pre++al)=some (x,p)/\dt s al=some (x,p)):=by
 intro pre;induction pre with
 |nil=>simp_all
 |cons y pre ih=>
  intro h;obtain ⟨s',y⟩:=y;simp only[mb,List.cons_append,dt] at h ⊢
  grind
theorem Xm{s:Nat}{x:RV}{p:Nat}:∀{al:TA},dt s al=some (x,p)->(s,x)∈al:=by
 intro al;induction al with
 |nil=>grind [dt]
 |cons y al ih=>grind [dt,Nat.eq_of_beq_eq_true]
theorem Uf{blk:TB}{σ1 am:aa}(S:Mr r t σ1 am):Us r t σ1 am blk.er (re t blk).er:=by
 cases blk with
 |cells w g=>
  refine ⟨_,rfl,ar.qf (by simp) λj a b e d=>?_⟩;rw[gT,bq] at e;obtain ⟨p,f,rfl⟩:=e;rw[gT,gT,f] at d;simp only[Option.map_some,ab] at d;subst d;unfold zK;split
  ·rename_i h;exact vD S (.inr rfl) h
  ·exact fQ.any _
 |row i l k o=>
  refine ⟨_,rfl,ar.qf rfl λj a b e d=>?_⟩
  grind [fQ.c]
 |mp j st l v=>exact ⟨rfl,CI (λa=>Cr _ _ _ _) _ _⟩
theorem UF(H:RH σ σD){b:Nat}{ob:Ob}(h:σD[b]? = some ob):∃blk,σ[b]? = some blk/\ob=blk.er:=by
 have a:b<σ.length:=by grind [RH.len]
 obtain ⟨e,d,f⟩:=H.hp b _ (cE a);rw[h] at d;simp only[ab] at d;exact ⟨_,cE a,d.trans f⟩
theorem OU{n b j m:Nat}{pre al0 af:TA}{σ0 σ':TH}{ak:AL}{ax:aa}(R0:Ref al0 σ0 ak ax)(a0:Ext σ0 σ)(u:Ref (pre++al0) σ alD σD)(hn:n=pre.length)(hm:m<=t)(ht:t<σ.length)(h:mvA n t b j (pre++al0) σ=some (af,σ')) :
  ∃A T U,af=A++al0/\A.length=pre.length/\lZ m alD σD T U/\Ref (A++al0) σ' T U/\Ext σ σ'/\σ'.length=σ.length:=by
 unfold mvA at h;split at h
 rotate_left
 ·simp at h
 rename_i w z X;split at h
 rotate_left
 ·simp at h
 rename_i v0 i r v q hj;split at h
 ·simp only[ab,aC] at h;obtain ⟨rfl,rfl⟩:=h;exact ⟨pre,alD,σD,rfl,rfl,lZ.refl (by rw[u.hh.len];omega),u,Ext.refl _,rfl⟩
 rename_i Z;have Z:r≠t:=λe=>by simp_all
 split at h
 rotate_left
 ·simp at h
 rename_i i1 l lv cv g l2 lt ct hr a1;split at h
 rotate_left
 ·simp at h
 rename_i hc;simp only[aU] at hc;obtain ⟨c1,c2,c3⟩:=hc;have c1:=bP c1;have c2:=bP c2;subst c1 c2;have E:(pre++al0).drop n=al0:=by simp_all
 have ad:(pre++al0).take n=pre:=by simp_all
 rw[E] at c3;rw[E,ad] at h;simp only[ab,aC] at h;obtain ⟨rfl,h⟩:=h;have ga:∀(b:Nat) blk,σ[b]? = some blk->(σ.map (re t))[b]? = some (re t blk):=λb blk e=>by simp_all
 have x0:=On σ t;have a2:=ga t _ a1;have x1:Ext σ ((σ.map (re t)).set t (.row g l (lt+1) (ct+1))):=Ext.trans u.hh x0 (Ext.set a2 ⟨l,lt+1,ct+1,rfl,by omega,by omega,λe=>by omega,λe=>by omega⟩);have a3:((σ.map (re t)).set t (.row g l (lt+1) (ct+1)))[r]? = some (.row g l v cv):=by rw[Mt Z];exact ga r _ hr
 have x2:Ext σ (((σ.map (re t)).set t (.row g l (lt+1) (ct+1))).set r (.row g (l++[Dt g]) (v+1) (cv+1))):=Ext.trans u.hh x1 (Ext.set a3 ⟨_,v+1,cv+1,rfl,by omega,by omega,λe=>by omega,λe=>by omega⟩);have a4:b≠t:=λe=>by simp_all
 have a5:b≠r:=λe=>by simp_all
 have a6:(((σ.map (re t)).set t (.row g l (lt+1) (ct+1))).set r (.row g (l++[Dt g]) (v+1) (cv+1)))[b]? = some (.cells (w+1) (z.map (zK t w))):=by rw[Mt a5,Mt a4];exact ga b _ X
 have a9:∀p∈z,p.1<=w:=λp hp=>(u.hh.hg b w z X p hp).2;have x3:Ext σ σ':=by
  rw[<-h];refine Ext.trans u.hh x2 (Ext.set a6 ⟨w+2,_,rfl,by omega,by simp,λk va xa vb xb e e1=>?_⟩)
  grind
 have len:σ'.length=σ.length:=by grind
 have gt:σ'[t]? = some (.row g l (lt+1) (ct+1)):=by grind
 have gr:σ'[r]? = some (.row g (l++[Dt g]) (v+1) (cv+1)):=by grind
 have gb:σ'[b]? = some (.cells (w+2) ((z.map (zK t w)).set j (w+2,.own g t (lt+1) l.length))):=by grind
 have go:∀(o:Nat),o≠t->o≠r->o≠b->σ'[o]? = (σ[o]?).map (re t):=λo e1 e2 O=>by grind
 clear h;have gj:=(u.hh.hg b w z X _ (sT hj)).1;obtain ⟨ei,el⟩:=kJ u.hh gj hr (by simp);subst ei;have S:Mr r t σD (σ'.map TB.er):=λo ob e1 e2=>by
  obtain ⟨blk,O,rfl⟩:=UF u.hh e2;rw[gT];by_cases e4:o=r
  ·subst e4;rw[hr] at O;simp only[ab] at O;subst O;rw[gr];have:=ID g l;exact ⟨_,rfl,Nat.le_of_lt this,λ_=>this,λe=>absurd rfl e⟩
  ·by_cases e5:o=b
   ·subst e5;rw[X] at O;simp only[ab] at O;subst O;rw[gb];have e6:(TB.er (.cells (w+2) ((z.map (zK t w)).set j (w+2,.own g t (lt+1) l.length)))).sz=(TB.er (.cells w z)).sz:=by simp[TB.er,Ob.sz]
    simp_all
   ·rw[go o e1 e4 e5,O];have e6:(re t blk).er.sz=blk.er.sz:=by
     cases blk with
     |cells w z=>simp[re,TB.er,Ob.sz]
     |_=>rfl
    simp_all
 have a7:σD[r]? = some (.cells ((l.flatMap (enc g)).map .c)):=u.hh.row hr;have a8:(σ'.map TB.er)[t]? = some (.cells ((l.flatMap (enc g)).map .c)):=by rw[gT,gt];rfl
 have own:fQ r t σD (σ'.map TB.er) (OS (ai g) r q) (OS (ai g) t l.length):=by grind [fQ.own,gL,nh]
 have G:∀s,∃R,∀x p,dt s (pre.map (λp=>(p.1,zQ t p.2))++al0)=some (x,p)->GW (pre.map (λp=>(p.1,zQ t p.2))++al0) σ' x/\∃K,lk s alD=some K/\fQ r t σD (σ'.map TB.er) K R/\RR x R:=by
  intro s;cases hs:dt s (pre.map (λp=>(p.1,zQ t p.2))++al0) with
  |none=>simp_all
  |some y=>
   obtain ⟨x,p⟩:=y;have:∃R,GW (pre.map (λp=>(p.1,zQ t p.2))++al0) σ' x/\∃K,lk s alD=some K/\fQ r t σD (σ'.map TB.er) K R/\RR x R:=by
    rcases RZ hs with ⟨x0,W,rfl⟩ | ⟨W,L⟩
    ·obtain ⟨K,N,h4,h5⟩:=u.rg s x0 p W;obtain ⟨R,h6,h7,h8⟩:=Su x3 S h4 h5;exact ⟨R,h8,K,N,h6,h7⟩
    ·obtain ⟨K,N,h4,_⟩:=u.rg s x p W;obtain ⟨_,_,_,h5⟩:=R0.rg s x p L;have hx:nrR t x=true:=eG.1 c3 _ (Xm L);obtain ⟨R,h6,h7⟩:=VW S h4 hx;exact ⟨R,h5.mono (Ext.trans R0.hh a0 x3) _,K,N,h6,h7⟩
   simp_all
 refine ⟨_,(pre.map (λp=>(p.1,zQ t p.2))++al0).map λp=>(p.1,Classical.choose (G p.1)),σ'.map TB.er,rfl,by simp,Wr Z hm a7 a8 (λd hd=>?_) S (λo ob e1 e2 O=>?_) (λs R h=>?_),⟨⟨by simp,λo blk e=>⟨_,by simp_all,rfl⟩,λo w' bc e p hp=>?_⟩,λs x p h=>?_⟩,x3,len⟩
 ·grind
 ·obtain ⟨blk,e4,rfl⟩:=UF u.hh O;rw[gT];by_cases e5:o=b
  ·subst e5;rw[X] at e4;simp only[ab] at e4;subst e4;rw[gb];refine ⟨_,rfl,_,rfl,ar.qf (by simp) λk a c W L=>?_⟩;rw[gT,bq] at W;obtain ⟨p,N,rfl⟩:=W;rw[gT] at L;by_cases ek:j=k
   ·subst ek;rw[hj] at N;simp only[ab] at N;subst N;rw[UJ,if_pos rfl,if_pos (by simp_all)] at L;simp only[Option.map_some,ab] at L;subst L;exact own
   ·rw[xAg ek,gT,N] at L;simp only[Option.map_some,ab] at L;subst L;unfold zK;split
    ·rename_i h;exact vD S (.inr rfl) h
    ·exact fQ.any _
  grind [Uf]
 ·obtain ⟨⟨x,p,N⟩,rfl⟩:=xy (f:=λs=>Classical.choose (G s)) h;obtain ⟨_,K,h4,h5,_⟩:=yBG (G s) x p N
  simp_all
 ·have cut:∀{w:Nat}{z:List (Nat×TC)}{b:Nat},σ[b]? = some (.cells w z)->∀p∈z.map (zK t w),GC σ' p.2/\p.1<=w+1:=λ{w z b} X p hp=>by
   rw[gZ] at hp;obtain ⟨y,hy,rfl⟩:=hp;obtain ⟨g1,g2⟩:=u.hh.hg b w z X y hy;unfold zK;split
   ·exact ⟨g1.mono x3,by omega⟩
   ·exact ⟨True.intro,bQ _⟩
  by_cases e1:o=t
  ·simp_all
  by_cases e2:o=r
  ·simp_all
  by_cases e5:o=b
  ·subst e5;rw[gb] at e;simp only[ab,TB.cells.injEq] at e;obtain ⟨rfl,rfl⟩:=e;rcases yBN hp with hp | rfl
   ·grind
   ·refine ⟨⟨_,gt,λj l' bd be e=>?_⟩,bQ _⟩
    grind
  ·rw[go o e1 e2 e5,bq] at e;obtain ⟨blk,e6,e7⟩:=e;cases blk with
   |cells w0 bh=>grind [re]
   |row i l lv cv=>grind [re]
   |mp j st l v=>grind [re]
 ·obtain ⟨W,K,L,N,h4⟩:=yBG (G s) x p h;exact ⟨_,CY (f:=λs=>Classical.choose (G s)) ⟨x,p,h⟩,h4,W⟩
theorem VD{n m:Nat}{al0:TA}{σ0:TH}{g:AL}{i:aa}(y:Ref al0 σ0 g i):∀(k:List (Nat×Nat×Nat)){pre a:TA}{σ σ':TH}{alD:AL}{σD:aa},Ext σ0 σ->Ref (pre++al0) σ alD σD->n=pre.length->(∀z∈k,m<=z.2.2/\z.2.2<σ.length)->m<=σ.length->Yb n k (pre++al0) σ=some (a,σ') ->
  ∃d e f,a=d++al0/\lZ m alD σD e f/\Ref (d++al0) σ' e f/\Ext σ0 σ':=by
 intro k;induction k with
 |nil=>intro pre a σ σ' alD σD q u _ _ A h;simp only[Yb,ab,aC] at h;obtain ⟨rfl,rfl⟩:=h;exact ⟨pre,alD,σD,rfl,lZ.refl (by rw[u.hh.len];exact A),u,q⟩
 |cons z k ih=>
  intro pre a σ σ' alD σD q u E N A h;obtain ⟨b,j,t⟩:=z;simp only[Yb] at h;split at h
  ·rename_i O σ1 R;obtain ⟨v,x⟩:=N _ (li ..);obtain ⟨G,K,L,rfl,S,s1,T,U,len⟩:=OU y q u E v x R;obtain ⟨l,o,p,W,X,Z,x2⟩:=ih (Ext.trans y.hh q U) T (E.trans S.symm) (λz ad=>by grind) (by omega) h;exact ⟨l,o,p,W,s1.trans X,Z,x2⟩
  simp_all
theorem Xi{m:Nat}:∀(g:List (Nat×Nat×Nat)){al a:TA}{σ σ':TH}{alD:AL}{σD:aa},Ref al σ alD σD->m<=σ.length->YV g al σ=some (a,σ') ->
  a=al/\σ'.length=σ.length+g.length/\(∀z∈g,σ.length<=z.2.2/\z.2.2<σ'.length)/\∃d f,lZ m alD σD d f/\Ref al σ' d f/\Ext σ σ':=by
 intro g;induction g with
 |nil=>intro al a σ σ' alD σD R p h;simp only[YV,ab,aC] at h;obtain ⟨rfl,rfl⟩:=h;exact ⟨rfl,rfl,by simp,alD,σD,lZ.refl (by rw[R.hh.len];exact p),R,Ext.refl _⟩
 |cons z g ih=>
  intro al a σ σ' alD σD R p h;obtain ⟨b,j,t⟩:=z;simp only[YV] at h;split at h
  rotate_left
  ·simp at h
  rename_i q W;have E:=bP q;subst E;split at h
  rotate_left
  ·simp at h
  rename_i i _ _ _ _;split at h
  rotate_left
  ·simp at h
  rename_i G σ1 K;have L:Ref al (σ++[.row i [] 0 0]) alD (σD++[.cells []]):=R.heap (R.hh.push (blk:=.row i [] 0 0) (ob:=.cells []) rfl (λw X e=>by simp at e)) (Ext.push σ _);obtain ⟨k,v,x,y,N,s1,A,u,len⟩:=OU (pre:=[]) (m:=m) R (Ext.push σ _) L rfl p (by simp) K;have:k=[]:=QI N;subst this;rw[QF] at y A;subst y;have len:σ1.length=σ.length+1:=by simp_all
  have u:Ext σ σ1:=Ext.trans R.hh (Ext.push σ _) u;obtain ⟨O,Z,z3,l,o,S,T,U⟩:=ih A (by omega) h;refine ⟨O,by grind,λz hz=>?_,l,o,(Qo (by rw[R.hh.len];exact p)).trans (s1.trans S),T,Ext.trans R.hh u U⟩
  grind
end
end
end Go.Abs
end
section
namespace Go.Abs
noncomputable section
variable[Gl][Y:Ty]
def jumps(P:Program)(b:Code)(l:Nat)(Q:Exit->Act->World->Prop):Nat->Act->World->Prop
 |0,_,_=>False
 |k+1,a,w=>b.wp P (Exit.jump l (jumps P b l Q k) Q) a w
theorem zV{P:Program}{Q:Exit->Act->World->Prop}{c j:Code}{l:Nat}(L:findLabel c l=some j){k:Nat}{a:Act}{w:World}(first:c.wp P (Exit.jump l (jumps P j l Q k) Q) a w):(Code.scope c).wp P Q a w:=by
 intro b y z;have G:gotoIn l (.inScope c::y)=some (.code j::.inScope c::y):=by simp[gotoIn,L]
 have A:∀k a w,jumps P j l Q k a w->∃e K w',Q e K w'/\Arrives P (lone (b.at a (.code j::.inScope c::y)) z w) b y z e K w':=by
  intro k;induction k with
  |zero=>intro a w h;exact h.elim
  |succ k ih=>
   intro a w h;obtain ⟨e,d,f,p,g⟩:=h b (.inScope c::y) z;cases e with
   |normal=>exact ⟨.normal,d,f,p,Steps.trans g (.one step_inScope)⟩
   |exit id=>exact ⟨.exit id,d,f,p,λE hk=>g E (by simp[exitTo,hk])⟩
   |goto N=>obtain ⟨rfl,x⟩:=p;obtain ⟨q,u,v,o,i⟩:=ih d f x;exact ⟨q,u,v,o,.of_steps (g _ G) i⟩
   |ret=>exact ⟨_,d,f,p,g⟩
   |panic O=>exact ⟨_,d,f,p,g⟩
   |outgrown=>exact ⟨_,d,f,p,g⟩
 obtain ⟨e,d,f,p,g⟩:=first b (.inScope c::y) z
 cases e with
 |normal=>exact ⟨.normal,d,f,p,.head step_scope (Steps.trans g (.one step_inScope))⟩
 |exit id=>exact ⟨.exit id,d,f,p,λE hk=>.head step_scope (g E (by simp[exitTo,hk]))⟩
 |goto N=>obtain ⟨rfl,x⟩:=p;obtain ⟨q,u,v,o,i⟩:=A _ d f x;exact ⟨q,u,v,o,.of_steps (.head step_scope (g _ G)) i⟩
 |ret=>exact ⟨_,d,f,p,.of_steps (.one step_scope) g⟩
 |panic O=>exact ⟨_,d,f,p,.of_steps (.one step_scope) g⟩
 |outgrown=>exact ⟨_,d,f,p,.of_steps (.one step_scope) g⟩
theorem Zu{P:Program}{l:Nat}:∀{b:Code}{a:az},aS P b=some a->(∀r,GX l a=some r->∃f,findLabel b l=some f/\aS P f=some r)/\(GX l a=none->findLabel b l=none):=by
 intro b;induction b with
 |seq q u i j=>
  intro a h;simp only[aS] at h;split at h
  ·rename_i k O v z;simp only[ab] at h;subst h;obtain ⟨p1,R⟩:=i v;obtain ⟨S,T⟩:=j z;simp only[GX,findLabel];cases A:GX l k with
   |some E=>obtain ⟨f,G,U⟩:=p1 E A;rw[G];refine ⟨λr d=>?_,λK=>by grind⟩;simp only[ab] at d;subst d;exact ⟨_,rfl,by grind [aS]⟩
   |none=>simp_all
  simp_all
 |label L=>
  intro a h;simp only[aS,ab] at h;subst h;simp only[GX,findLabel];split
  ·refine ⟨λr d=>?_,λK=>by grind⟩;simp only[ab] at d;subst d;exact ⟨_,rfl,rfl⟩
  simp_all
 |scope b ih=>intro a h;simp only[aS,bq] at h;obtain ⟨k,_,rfl⟩:=h;rcases Dp k with ⟨L,W,_,e⟩ | e <;> rw[e] <;> exact ⟨λr d=>by grind [GX],λ_=>rfl⟩
 |region id N p=>
  intro a h;have:GX l a=none:=by
   simp only[aS] at h;split at h
   ·cases p with
    |false=>simp only[aV,bm,ab] at h;subst h;rfl
    |true=>simp only[if_true] at h;split at h <;> (simp only[ab] at h;subst h;rfl)
   ·simp only[ab] at h;subst h;rfl
  exact ⟨λr d=>by simp_all,λ_=>rfl⟩
 |cond o q u i j=>
  intro a h;have:GX l a=none:=by simp only[aS] at h;split at h <;> (simp only[ab] at h;subst h;rfl)
  exact ⟨λr d=>by simp_all,λ_=>rfl⟩
 |rangeFunc g X x y=>intro a h;rcases cU h with ⟨_,_,_,_,_,_,_,rfl⟩ | rfl <;> exact ⟨λr d=>(by cases d),λ_=>rfl⟩
 |block id b ih=>intro a h;simp only[aS,bq] at h;obtain ⟨k,_,rfl⟩:=h;exact ⟨λr d=>by grind [GX],λ_=>rfl⟩
 |loop b ih=>intro a h;simp only[aS,bq] at h;obtain ⟨k,_,rfl⟩:=h;exact ⟨λr d=>by grind [GX],λ_=>rfl⟩
 |_=>intro a h;simp only[aS,ab] at h;subst h;exact ⟨λr d=>by grind [GX],λ_=>rfl⟩
section
variable{P:Program}{n:Nat}{al:AL}{σ:aa}{Q:jr->AL->aa->Prop}
theorem Sem.Qx{l:Nat}(E:Q .normal al σ):Sem P (.Qx l) n al σ Q:=by
 intro c i M Fz w u K R A G;cases c with
 |label W=>exact MW (G .normal al σ u w M Fz E (Mk.refl _ _) R A (aW.refl R) (bQ _))
 |region id L j=>
  simp only[aS] at i;split at i
  ·cases j with
   |false=>simp at i
   |true=>simp only[if_true] at i;split at i <;> simp at i
  ·simp at i
 |seq c1 O=>simp only[aS] at i;split at i <;> simp at i
 |cond o c1 O=>simp only[aS] at i;split at i <;> simp at i
 |scope b=>simp only[aS,bq] at i;obtain ⟨U,_,z⟩:=i;rcases Dp U with ⟨l,r,_,e⟩ | e <;> rw[e] at z <;> simp at z
 |rangeFunc g X x y=>rcases cU i with ⟨_,_,_,_,_,_,_,e⟩ | e <;> cases e
 |_=>simp[aS] at i
def KW(P:Program)(r:az)(l:Nat)(k:Nat)(n:Nat)(al:AL)(σ:aa)(Q:jr->AL->aa->Prop):Prop:=
 ∀ (c : Code), aS P c = some r -> ∀ (M : Nat -> Option Nat) (Fz : Nat -> Prop) (w : World) (a : Act) (K : Exit -> Act -> World -> Prop), Rel σ M Fz w -> dq n σ M Fz w al a.tmps ->
  (∀x b σ' d w' M' Fz',Q x b σ'->Mk w.heap.size M' Fz' w' d.defers a.defers->Rel σ' M' Fz' w'->dq n σ' M' Fz' w' b d.tmps->aW σ M Fz w σ' M' Fz' w'->σ.length<=σ'.length->K (sX x) d w')->jumps P c l K k a w
def Yz(P:Program)(r:az)(l:Nat)(k:Nat)(n:Nat)(m:Nat)(Q:jr->AL->aa->Prop):jr->AL->aa->Prop
 |.exit i,al,σ=>(i=2 * l+1/\∃al2 am,lZ m al σ al2 am/\KW P r l k n al2 am Q)∨(i % 2=0/\Q (.exit i) al σ)
 |x,al,σ=>Q x al σ
theorem Yz.use{r:az}{l k:Nat}{c:Code}(hc:aS P c=some r){M:Nat->Option Nat}{Fz:Nat->Prop}{w:World}{a:Act}{K:Exit->Act->World->Prop}(R:Rel σ M Fz w)
  (z:∀x u σ' j w' M' Fz',Q x u σ'->Mk w.heap.size M' Fz' w' j.defers a.defers->Rel σ' M' Fz' w'->dq n σ' M' Fz' w' u j.tmps->aW σ M Fz w σ' M' Fz' w'->σ.length<=σ'.length->K (sX x) j w')
  {x:jr} {o:AL} {σ1:aa} {j:Act} {w':World} {M':Nat->Option Nat} {Fz':Nat->Prop} (L:Yz P r l k n σ.length Q x o σ1) (hd:Mk w.heap.size M' Fz' w' j.defers a.defers) (A:Rel σ1 M' Fz' w') (E:dq n σ1 M' Fz' w' o j.tmps) (G:aW σ M Fz w σ1 M' Fz' w') (O:σ.length<=σ1.length) :
  Exit.jump l (jumps P c l K k) K (sX x) j w':=by
 cases x with
 |normal=>exact z .normal o σ1 j w' M' Fz' L hd A E G O
 |ret=>exact z .ret o σ1 j w' M' Fz' L hd A E G O
 |exit i=>
  rcases L with ⟨rfl,al2,am,hw,hs⟩ | ⟨he,hq⟩
  ·rw[Dx];obtain ⟨M2,F2,R2,A2,E2,l2,W2⟩:=hw.use R A E G (bQ _);exact ⟨rfl,hs c hc M2 F2 w' j K R2 A2 λx U W a3 w3 M3 X Z ad R3 A3 E3 af=>z x U W a3 w3 M3 X Z (Mk.trans E3 E2.size (hd.Sp W2) ad) R3 A3 (E2.trans E3 l2) (jI l2 af)⟩
  ·have:=z (.exit i) o σ1 j w' M' Fz' hq hd A E G O;rw[vg he] at this ⊢;exact this
theorem KW.succ{r:az}{l k:Nat}(h:Sem P r n al σ (Yz P r l k n σ.length Q)):KW P r l (k+1) n al σ Q:=by intro c i M Fz w a K R A j;exact (h c i M Fz w a _ R A λx o σ1 O w' M' Fz' u hd z E G L=>Yz.use i R j u hd z E G L).1
theorem Sem.Mu{l:Nat}{a r:az}(k:Nat)(h:Sem P a n al σ (Yz P r l k n σ.length Q)):Sem P (.Mu l a r) n al σ Q:=by
 intro c i M Fz w z K R A L;cases c with
 |scope b=>
  simp only[aS,bq] at i;obtain ⟨O,E,j⟩:=i;rcases Dp O with ⟨l',r',U,e⟩ | e
  ·rw[e] at j;simp only[az.Mu.injEq] at j;obtain ⟨rfl,rfl,rfl⟩:=j;obtain ⟨G,f1,W⟩:=(Zu E).1 _ U;exact ⟨zV f1 (k:=k) (h b E M Fz w z _ R A λx X σ1 a' w' M' Fz' Z hd R' A' E' hl=>Yz.use W R L Z hd R' A' E' hl).1,λhh=>by simp[Code.calm] at hh⟩
  ·rw[e] at j;simp at j
 |region id ad u=>
  simp only[aS] at i;split at i
  ·cases u with
   |false=>simp at i
   |true=>simp only[if_true] at i;split at i <;> simp at i
  ·simp at i
 |seq c1 c2=>simp only[aS] at i;split at i <;> simp at i
 |cond o c1 c2=>simp only[aS] at i;split at i <;> simp at i
 |rangeFunc g ps x y=>rcases cU i with ⟨_,_,_,_,_,_,_,e⟩ | e <;> cases e
 |_=>simp[aS] at i
end
end
end Go.Abs
end
section
namespace Go.Abs
section
variable{σ σ':aa}{M M':Nat->Option Nat}{Fz Fz':Nat->Prop}{w w' w'':World}{P:Program}
theorem VC.qP(j:∀c:Nat,Fz c->w'.heap[c]? = w.heap[c]?){x:C}{v:Value}(h:VC Fz w x v):VC Fz w' x v:=h.mono λc i=>⟨i,j c i⟩
theorem V.qP(L:∀c:Nat,(Fz c∨∃b,M b=some c)->w'.heap[c]? = w.heap[c]?){d:D}{v:Value}(h:V σ M Fz w d v):V σ M Fz w' d v:=by
 induction h with
 |c h=>exact .c (h.qP λc R=>L c (.inl R))
 |any v=>exact .any v
 |ptr a x h j i=>exact .ptr a x h j i
 |sl a n cap A x h j i=>
  refine .sl a n cap A x h j (λU=>?_);rcases i U with u | ⟨c,o,E,T,O,W,X,Z,hh,hb,hr⟩
  ·exact .inl u
  ·exact .inr ⟨c,o,E,T,O,W,X,Z,hh,by rw[L c (.inr ⟨_,O⟩)];exact hb,hr⟩
 |mp c x h i=>exact .mp c x h i
 |fn z ws u h2 i hw G K=>exact .fn z ws u h2 G K
 |agg z u i ih=>exact .agg z u ih
 |aB z u i ih=>exact .aB z u ih
theorem bb.qP(K:∀c:Nat,(Fz c∨∃b,M b=some c)->w'.heap[c]? = w.heap[c]?){ob:Ob}{o:Obj}(h:bb σ M Fz w ob o):bb σ M Fz w' ob o:=by
 cases ob with
 |cells L=>obtain ⟨j,T,A,E,u⟩:=h;exact ⟨j,T,A,E,λi d v x z=>⟨(u i d v x z).1.qP K,(u i d v x z).2⟩⟩
 |map O G=>obtain ⟨j,A,E,u⟩:=h;exact ⟨j,A,E,λi k d n e x z=>let ⟨a,b,c⟩:=u i k d n e x z;⟨a,b,c.qP K⟩⟩
 |gone n=>exact h.elim
variable[Gl]
theorem Rel.qP(i:∀c:Nat,(Fz c∨∃b,M b=some c)->w'.heap[c]? = w.heap[c]?)(hs:w.heap.size<=w'.heap.size)(R:Rel σ M Fz w):Rel σ M Fz w':={
 blk:=λb c h=>by obtain ⟨u,ob,o,h1,h2,x⟩:=R.blk b c h;exact ⟨u,ob,o,h1,by rw[i c (.inr ⟨b,h⟩)];exact h2,x.qP i⟩
 inj:=R.inj
 fz:=λc h=>xD (R.fz c h) hs
 gl:=Gl.mono (λc j=>⟨j,i c (.inl j)⟩) R.gl }
theorem Rel.none(R:Rel σ M Fz w):Rel [] (λ_=>none) Fz w:=⟨λb c h=>by simp at h,λb i c h=>by simp at h,R.fz,R.gl⟩
omit [Gl] in
theorem aW.qP(E:aW σ M Fz w σ' M' Fz' w')(o:∀c:Nat,(Fz' c∨∃b,M' b=some c)∨c<w.heap.size->w''.heap[c]? = w'.heap[c]?)(hs:w'.heap.size<=w''.heap.size)(u:w''.os=w'.os/\w''.tape=w'.tape/\w''.output=w'.output):aW σ M Fz w σ' M' Fz' w'':={
 size:=jI E.size hs
 frame:=λc i G=>by rw[o c (.inr i)];exact E.frame c i G
 hY:=E.hY
 fz:=λc i=>⟨(E.fz c i).1,by rw[o c (.inl (.inl (E.fz c i).1))];exact (E.fz c i).2⟩
 jj:=E.jj
 lm:=λc x T K i=>by have z:=(CS.1 i).1;obtain ⟨j,h,A⟩:=E.lm c x T K i;exact ⟨j,by rw[o c (.inr z)];exact h,A⟩
 bX:=E.bX
 out:=⟨u.1.trans E.out.1,u.2.1.trans E.out.2.1,u.2.2.trans E.out.2.2⟩ }
theorem V.rU{G:Nat->Prop}(K:∀c,Fz c->G c){d:D}{v:Value}(h:V σ M Fz w d v):V σ M G w d v:=by
 induction h with
 |c h=>exact .c (h.mono λc L=>⟨K c L,rfl⟩)
 |any v=>exact .any v
 |ptr a o h j i=>exact .ptr a o h j i
 |sl a n cap z o h j i=>exact .sl a n cap z o h j i
 |mp c o h i=>exact .mp c o h i
 |fn u O x R i U A E=>exact .fn u O x R A E
 |agg u x i ih=>exact .agg u x ih
 |aB u x i ih=>exact .aB u x ih
theorem Rel.rU{x:Nat->Prop}(R:Rel σ M Fz w)(z:∀c,Fz c->x c)(L:∀c,x c->Fz c∨((∀b,M b≠some c)/\c<w.heap.size)):Rel σ M x w:={
 blk:=λb c h=>by
  obtain ⟨O,ob,o,h1,h2,A⟩:=R.blk b c h;refine ⟨λU=>(L c U).elim O λW=>W.1 b h,ob,o,h1,h2,?_⟩;cases ob with
  |cells Z=>obtain ⟨j,T,E,G,u⟩:=A;exact ⟨j,T,E,G,λi d v h1 h2=>⟨(u i d v h1 h2).1.rU z,(u i d v h1 h2).2⟩⟩
  |map es K=>obtain ⟨j,E,G,u⟩:=A;exact ⟨j,E,G,λi k d n e h1 h2=>let ⟨a,b,c⟩:=u i k d n e h1 h2;⟨a,b,c.rU z⟩⟩
  |gone n=>exact A.elim
 inj:=R.inj
 fz:=λc h=>(L c h).elim (R.fz c) λh=>h.2
 gl:=Gl.mono (λc X=>⟨z c X,rfl⟩) R.gl }
omit [Gl] in
theorem aW.rU{j:Nat->Prop}(E:aW σ M Fz w σ' M' Fz' w')(o:∀c,Fz' c->j c)(u:∀c,j c->Fz' c∨w.heap.size<=c):aW σ M Fz w σ' M' j w':={
 size:=E.size
 frame:=E.frame
 hY:=E.hY
 fz:=λc i=>⟨o c (E.fz c i).1,(E.fz c i).2⟩
 jj:=λc i=>(u c i).elim (E.jj c) λh=>.inr (.inr h)
 lm:=E.lm
 bX:=E.bX
 out:=E.out }
def seen(M:Nat->Option Nat)(Fz:Nat->Prop)(c:Nat):Prop:=Fz c∨∃b,M b=some c
theorem AN{a:Nat->Prop}(b:∀c,Fz c->a c):(λc=>seen M Fz c∨a c)=seen M a:=funext λc=>propext ⟨λh=>h.elim (λh=>h.imp (b c) id) .inl,λh=>h.elim .inr λh=>.inl (.inr h)⟩
theorem Rel.Ch(R:Rel σ M Fz w){c:Nat}(h:seen M Fz c):c<w.heap.size:=h.elim (R.fz c) λ⟨_,h⟩=>(R.lt h).2
omit [Gl] in
theorem aW.kept{x:Nat->Option Nat}{F j:Nat->Prop}(E:aW σ M Fz w σ' M' Fz' w')(W:Bp M' Fz' x j)(A:∀c:Nat,F c->j c/\w'.heap[c]? = w.heap[c]?):Kept F (seen M Fz) w j (seen x j) w':={
 size:=E.size
 off:=λc G i=>by
  unfold seen at i;simp only[not_or,not_exists] at i;have z:∀b,M' b≠some c:=λb K=>(E.hY b c K).elim (λ⟨o,u⟩=>i.2 o u) (by omega);have L:¬Fz' c:=λh=>by
   rcases E.jj c h with h | ⟨o,u⟩ | h
   ·exact i.1 h
   ·exact i.2 o u
   ·omega
  refine ⟨E.frame c G i.2,λh=>?_⟩;rcases h with h | ⟨b,h⟩
  ·rcases W.2.1 c h with h | ⟨b,h⟩
   ·exact L h
   ·exact z b h
  ·obtain ⟨O,R⟩:=W.1 b c h;exact z O R
 fz:=A
 out:=E.out }
def PJ:jr->Code
 |.normal=>.skip
 |.exit i=>if i % 2=0 then .exit (i / 2) else .goto (i / 2)
 |.ret=>.ret
omit [Gl] in
theorem Ws{x:jr}{Q:Exit->Act->World->Prop}{a:Act}(h:Q (sX x) a w):(PJ x).wp P Q a w:=by
 cases x with
 |normal=>exact wp_skip h
 |ret=>exact wp_ret h
 |exit i=>
  unfold sX at h;unfold PJ;dsimp only at h ⊢;split <;> rename_i e
  ·rw[if_pos e] at h;exact wp_exit h
  ·rw[if_neg e] at h;exact wp_goto h
omit [Gl] in
theorem DN{I:Nat->(Nat->Prop)->(Nat->Prop)->World->Prop}{f:Code->(Nat->Prop)->(Nat->Prop)->World->Prop}{i:Nat}{F U b d:Nat->Prop}{x:jr}{a:Act}(g:x≠.normal)(k:Kept F U w b d w')(h:f (PJ x) b d w'):Va I f i F U w (sX x) a w':=by
 cases x with
 |normal=>exact absurd rfl g
 |ret=>exact ⟨b,d,k,h⟩
 |exit j=>
  unfold PJ at h;unfold sX;dsimp only at h ⊢;split <;> rename_i e
  ·rw[if_pos e] at h;exact ⟨b,d,k,h⟩
  ·rw[if_neg e] at h;exact ⟨b,d,k,h⟩
def Fm:List Nat->List D->AL->AL
 |p::ps,d::ds,al=>Fm ps ds ((p,d)::al)
 |_,_,al=>al
omit [Gl] in
theorem dq.Fm{n:Nat}:∀{ps:List Nat}{ds:List D}{vs:List Value}{al:AL}{i:Array Value},dq n σ M Fz w al i->(∀p∈ps,p<n)->ps.length=ds.length->vs.length=ds.length->(∀(k:Nat) d v,ds[k]? = some d->vs[k]? = some v->V σ M Fz w d v) ->
  dq n σ M Fz w (Fm ps ds al) ((ps.zip vs).foldl (λt (p,v)=>t.setIfInBounds p v) i):=by
 intro ps;induction ps with
 |nil=>intro ds vs al i A _ _ _ _;simpa[Abs.Fm] using A
 |cons p ps ih=>
  intro ds vs al i A u x z E;cases ds with
  |nil=>simp at x
  |cons d ds=>
   cases vs with
   |nil=>simp at z
   |cons v vs=>
    simp only[Abs.Fm,List.zip_cons_cons,List.foldl_cons];refine ih ⟨by simp[A.1],λt G j=>?_⟩ (λq K=>u q (kE _ K)) (by simpa using x) (by simpa using z) λk d v a b=>E (k+1) d v (by simpa using a) (by simpa using b);simp only[lk] at j;split at j
    ·rename_i o;have:=bP o;subst this;simp only[ab] at j;subst j;refine ⟨v,?_,E 0 _ _ rfl rfl⟩;rw[QH,if_pos rfl,if_pos (by rw[A.1];exact u _ (by simp))]
    ·rename_i o;obtain ⟨L,O,R⟩:=A.2 t G j;refine ⟨L,?_,R⟩;rw[QH,if_neg (λe=>by rw[e] at o;simp at o)];exact O
end
section
variable[Gl][Ty]{P:Program}{n:Nat}{Q:jr->AL->aa->Prop}
def YB(P:Program)(a b:az)(n:Nat)(ps:List Nat)(g:Nat)(x:C)(m:Nat)(Q:jr->AL->aa->Prop):List (List D)->AL->aa->Prop
 |[],al,σ=>(σ[g]? = some (.cells [.c x])/\σ.length=m)/\Q .normal al σ
 |ds :: xs, al, σ => (σ[g]? = some (.cells [.c x]) /\ σ.length = m) /\ Sem P a n (Fm ps ds al) σ λe h σ1 => e = .normal /\ Sem P b n h σ1 λe _ am => match e with
  |.normal=>∃d f,lZ m al am d f/\YB P a b n ps g x m Q xs d f
  |e=>Q e al am
theorem YB.cap{a b:az}{ps:List Nat}{i:Nat}{x:C}{m:Nat}{xs:List (List D)}{al:AL}{σ:aa}(h:YB P a b n ps i x m Q xs al σ):σ[i]? = some (.cells [.c x])/\σ.length=m:=by
 cases xs with
 |nil=>exact h.1
 |cons d ds=>exact h.1
theorem Sem.Xw{ac:az}{al al2:AL}{σ am:aa}(hs:lZ σ.length al σ al2 am)(h:Sem P ac n al2 am Q):Sem P ac n al σ Q:=by intro c o M Fz w a K R A u;obtain ⟨z,E,G,L,O,j,W2⟩:=hs.use R R A (aW.refl R) (bQ _);exact h c o z E w a K G L λx i σ' U w' M' Fz' W hd X Z E' hl=>u x i σ' U w' M' Fz' W hd X Z (O.trans E' j) (jI j hl)
theorem Sem.Mm{o:ay}{ps:List Nat}{a b:az}{gf bc:Nat}{x:C}{items:List (List D)}{al:AL}{σ:aa}(ho:(match o with | .t k=>lk k al | .k d=>some d)=some (.fn (.func gf) [] [.ptr bc 0 1]))
  (ax:aH P gf=true) (it:Xz P gf [[x]] items) (bl:∀ds∈items,ds.length=ps.length) (b0:∀p∈ps,p<n) (h:YB P a b n ps bc x σ.length Q items al σ):Sem P (.Mm o ps a b) n al σ Q:=by
 intro c G M Fz w af K R A hK;cases c with
 |rangeFunc g pt c1 c2=>
  rcases cU G with ⟨o',a',b',h1,h2,h3,h4,e⟩ | e
  ·simp only[az.Mm.injEq] at e;obtain ⟨rfl,rfl,rfl,rfl⟩:=e;simp only[aU] at h4;refine ⟨?_,λhh=>by simp[Code.calm] at hh⟩;have hv:=jc A.bV.1 h1;have b1:o.ev (sf n al)=.fn (.func gf) [] [.ptr bc 0 1]:=by
    cases o with
    |t k=>dsimp only at ho;simp[ay.ev,A.bV.2.2 k _ ho]
    |k d=>simp only[ab] at ho;subst ho;rfl
   rw[b1] at hv;obtain ⟨lb,b2,b3,b4⟩:∃lb:Array Value,af.eval g=.func (.func gf) #[] lb/\lb.size=1/\∀v,lb[0]? = some v->V σ M Fz w (.ptr bc 0 1) v:=by
    generalize af.eval g=y at hv;cases hv with
    |fn vs ws g1 g2 _ g4=>have:vs=#[]:=Array.eq_empty_of_size_eq_zero (by simpa using g1);exact ⟨ws,by rw[this],by simpa using g2,λv hv=>g4 0 _ v rfl hv⟩
   have eg:∀args w,(callFunc gf args).run P w=.ok (.enter gf args) w:=λargs w=>by
    unfold aH at ax;split at ax
    ·rename_i fn b5;simp only[aU,zC,ne_eq] at ax;obtain ⟨hb,b6⟩:=ax;have b7:fn.body.isNone=false:=by simp_all
     simp only[callFunc,Sem.run_bind,Sem.run_pure,Result.andThen_ok,run_program,b5,oQ,b6,b7,bm,aV]
    ·simp at ax
   obtain ⟨I,hI⟩:∃I:Nat->(Nat->Prop)->(Nat->Prop)->World->Prop,I=λi F U W=>∃E z O,YB P a b n pt.toList bc x σ.length Q (items.drop i) E z/\Rel z O F W/\dq n z O F W E af.tmps/\aW σ M Fz w z O F W/\U=seen O F:=⟨_,rfl⟩;obtain ⟨Ix,a5⟩:∃Ix:Code->(Nat->Prop)->(Nat->Prop)->World->Prop,Ix=λc F U W=>∃e E z O,c=PJ e/\Q e E z/\σ.length<=z.length/\Rel z O F W/\dq n z O F W E af.tmps/\aW σ M Fz w z O F W/\U=seen O F:=⟨_,rfl⟩;have a0:∀{z:aa}{O:Nat->Option Nat}{F:Nat->Prop}{W W':World}{E:AL}{tm:Array Value},(∀c:Nat,seen O F c∨c<w.heap.size->W'.heap[c]? = W.heap[c]?)->dq n z O F W E tm->dq n z O F W' E tm:=λL Z=>⟨Z.1,λt d ht=>let ⟨v,g1,g2⟩:=Z.2 t d ht;⟨v,g1,g2.qP λc G=>L c (.inl G)⟩⟩
   have fI:∀i,rQ w.heap.size (I i):=λi=>by
    subst hI;refine ⟨λF U W ⟨E,z,O,_,X,_⟩=>X.none,λF U W ⟨E,z,O,_,_,_,_,e⟩ c G=>by rw[e];exact .inl G,λF U W ⟨E,z,O,_,X,_,_,e⟩ c G=>X.Ch (by rw[e] at G;exact G),λF U W ⟨E,z,O,_,_,_,E',_⟩=>E'.size,λF U W W' ⟨E,z,O,hr,X,Z,E',e⟩ hs L ak=>?_,λF U W F' ⟨E,z,O,hr,X,Z,E',e⟩ ha hb=>?_⟩
    rotate_left
    ·rw[e] at hb ⊢;exact ⟨E,z,O,hr,X.rU ha λc G=>(hb c G).imp id λ⟨q,r⟩=>⟨λb a7=>q (.inr ⟨b,a7⟩),r.2⟩,⟨Z.1,λt d ht=>let ⟨v,g1,g2⟩:=Z.2 t d ht;⟨v,g1,g2.rU ha⟩⟩,E'.rU ha λc G=>(hb c G).imp id λ⟨q,r⟩=>r.1,AN ha⟩
    rw[e] at L;exact ⟨E,z,O,hr,X.qP (λc G=>L c (.inl G)) hs,a0 L Z,E'.qP L hs ak,e⟩
   have b8:∀c,rQ w.heap.size (Ix c):=λc=>by
    subst a5;refine ⟨λF U W ⟨x,E,z,O,_,_,_,X,_⟩=>X.none,λF U W ⟨x,E,z,O,_,_,_,_,_,_,e⟩ c G=>by rw[e];exact .inl G,λF U W ⟨x,E,z,O,_,_,_,X,_,_,e⟩ c G=>X.Ch (by rw[e] at G;exact G),λF U W ⟨x,E,z,O,_,_,_,_,_,E',_⟩=>E'.size,λF U W W' ⟨x,E,z,O,hx,hq,a2,X,Z,E',e⟩ hs L ak=>?_,λF U W F' ⟨x,E,z,O,hx,hq,a2,X,Z,E',e⟩ ha hb=>?_⟩
    rotate_left
    ·rw[e] at hb ⊢;exact ⟨x,E,z,O,hx,hq,a2,X.rU ha λc G=>(hb c G).imp id λ⟨q,r⟩=>⟨λb a7=>q (.inr ⟨b,a7⟩),r.2⟩,⟨Z.1,λt d ht=>let ⟨v,g1,g2⟩:=Z.2 t d ht;⟨v,g1,g2.rU ha⟩⟩,E'.rU ha λc G=>(hb c G).imp id λ⟨q,r⟩=>r.1,AN ha⟩
    rw[e] at L;exact ⟨x,E,z,O,hx,hq,a2,X.qP (λc G=>L c (.inl G)) hs,a0 L Z,E'.qP L hs ak,e⟩
   refine OQ (caps:=[[x]]) (items:=items) (F0:=Fz) (U0:=seen M Fz) b2 eg it (by simpa using bl) I Ix fI b8 ?_ ?_ ?_ ?_ ?_
   ·
    intro i F U W hi;subst hI;obtain ⟨E,z,O,hr,X,_,E',_⟩:=hi;refine ⟨by simp[b3],λk cs v hk hv=>?_⟩;have b9:k=0:=by have:=(dT.1 hk).1;simp at this;exact this
    subst b9;simp only[List.getElem?_cons_zero,ab] at hk;subst hk;obtain ⟨c,hM,rfl⟩:=((b4 v hv).mono E').qG (Nk hr.cap.1 (sz:=1) rfl);obtain ⟨a8,T,hh,hl,ch⟩:=X.row hM hr.cap.1;refine ⟨c,rfl,a8,T,hh,by simpa using hl,λj d u hd hu=>?_⟩;have ck:j=0:=by have:=(dT.1 hd).1;simp at this;exact this
    subst ck;simp only[List.getElem?_cons_zero,ab] at hd;subst hd;obtain ⟨g1,g2⟩:=ch 0 _ _ rfl hu;exact ⟨g1.lU,g2⟩
   ·subst hI;exact ⟨al,σ,M,by simpa using h,R,A,aW.refl R,rfl⟩
   ·
    intro l i ds F U W vs a9 hi bt;subst hI;obtain ⟨E,z,O,hr,X,Z,E',rfl⟩:=hi;have cm:=(dT.1 a9).1;have co:items.drop i=ds::items.drop (i+1):=by rw[ZY cm];simp only[XZ,Kg];have:=dT.1 a9;exact this.2
    rw[co] at hr;obtain ⟨⟨db,dc⟩,bu⟩:=hr;have cv:=bl ds (sT a9);have c0:vs.toList.length=ds.length:=by simpa using bt.1
    have A1:=dq.Fm (ps:=pt.toList) (ds:=ds) (vs:=vs.toList) Z b0 cv.symm c0 λk d v g1 g2=>by have:=bt.2 k d v g1 (by simpa using g2);exact this.sub (λb ob hb=>by simp at hb) (λ_ _ h=>by simp at h) (λc h=>⟨h,rfl⟩) (λc a8 T fr h=>⟨a8,h,rfl⟩)
    have ez:(pt.zip vs).foldl (λt (p,v)=>t.setIfInBounds p v) af.tmps=(pt.toList.zip vs.toList).foldl (λt (p,v)=>t.setIfInBounds p v) af.tmps:=by rw[<-xAf,Array.toList_zip]
    rw[ez];refine (bu c1 h2 O F W { tmps:=_,defers:=[] } _ X A1 λx1 c3 σ1 a1 w1 M1 F1 c4 _ R1 c5 E1 dd=>?_).2 h4.1 l 0;obtain ⟨rfl,hb⟩:=c4;refine ⟨F1,seen M1 F1,E1.kept Bp.refl E1.fz,λc G=>R1.Ch G,λw2 bv L ak=>?_⟩;have R2:=R1.qP (λc G=>L c (.inl G)) (Nat.le_of_eq bv);have c6:dq n σ1 M1 F1 w2 c3 a1.tmps:=a0 L c5;have Et:aW σ M Fz w σ1 M1 F1 w2:=(E'.trans E1 (by omega)).qP L (Nat.le_of_eq bv) ak;refine (hb c2 h3 M1 F1 w2 a1 _ R2 c6 λx2 al2 am a3 w3 M3 F3 bd _ R3 di E3 df=>?_).2 h4.2 l 0;have Ef:aW σ M Fz w am M3 F3 w3:=Et.trans E3 (by omega);have Vm:∀{d:D}{v:Value},V z O F W d v->V am M3 F3 w3 d v:=λhv=>by have:=hv.mono E1;exact (this.qP (λc G=>L c (.inl G))).mono E3
    have be:dq n am M3 F3 w3 E af.tmps:=⟨Z.1,λt d ht=>let ⟨v,g1,g2⟩:=Z.2 t d ht;⟨v,g1,Vm g2⟩⟩;have a6:∀c:Nat,F c->F3 c/\w3.heap[c]? = w2.heap[c]?:=λc G=>E3.fz c (E1.fz c G).1;cases x2 with
    |normal=>obtain ⟨c7,c8,hw,bh⟩:=bd;obtain ⟨M4,F4,R4,A4,W4,E4⟩:=hw.2 n M3 F3 w3 af.tmps R3 be;have c9:=E4 σ M Fz w R Ef (bQ _);have da:∀c:Nat,F c->F4 c:=λc G=>W4.2.2 c (a6 c G).1;exact ⟨F4,seen M4 F4,E3.kept W4 λc G=>⟨da c G,(a6 c G).2⟩,c7,c8,M4,bh,R4,A4,c9,rfl⟩
    |exit j=>exact DN (by simp) (E3.kept Bp.refl a6) (by subst a5;exact ⟨.exit j,E,am,M3,rfl,bd,by omega,R3,be,Ef,rfl⟩)
    |ret=>exact DN (by simp) (E3.kept Bp.refl a6) (by subst a5;exact ⟨.ret,E,am,M3,rfl,bd,by omega,R3,be,Ef,rfl⟩)
   ·intro D F U W hD bi ad bk hi;subst hI;obtain ⟨E,z,O,hr,X,Z,E',rfl⟩:=hi;rw[List.drop_length] at hr;unfold seen at ad;simp only[not_or,not_exists] at ad;exact hK .normal E z _ W O F hr.2 ⟨[D],rfl,by simp,λD' a4=>by simp only[Mq] at a4;subst a4;exact ⟨hD,bi,ad.2,ad.1,bk⟩⟩ X Z E' (Nat.le_of_eq hr.1.2.symm)
   ·intro D c F U W hD bi ad bk hi;subst a5;obtain ⟨e,E,z,O,rfl,hq,a2,X,Z,E',rfl⟩:=hi;unfold seen at ad;simp only[not_or,not_exists] at ad;exact Ws (hK e E z _ W O F hq ⟨[D],rfl,by simp,λD' a4=>by simp only[Mq] at a4;subst a4;exact ⟨hD,bi,ad.2,ad.1,bk⟩⟩ X Z E' a2)
  ·cases e
 |region id dp bw=>
  simp only[aS] at G;split at G
  ·cases bw with
   |false=>simp at G
   |true=>simp only[if_true] at G;split at G <;> simp at G
  ·simp at G
 |seq c1 c2=>simp only[aS] at G;split at G <;> simp at G
 |cond o c1 c2=>simp only[aS] at G;split at G <;> simp at G
 |scope b=>simp only[aS,bq] at G;obtain ⟨a1,_,e1⟩:=G;rcases Dp a1 with ⟨l,r,_,e⟩ | e <;> rw[e] at e1 <;> simp at e1
 |_=>simp[aS] at G
end
end Go.Abs
end
section
namespace Go.Abs
noncomputable section
variable[Gl][Y:Ty]
section
variable{P:Program}{n:Nat}{al:AL}{σ:aa}{Q:jr->AL->aa->Prop}{ac:az}
theorem Sem.frzR{t b i:Nat}{l:List (TT i)}(hr:lk t al=some (OS (ai i) b l.length))(hb:σ[b]? = some (OB (enc i) l))(h:Sem P ac n ((t,.c (.bG false (l.map (enc i))))::al) (σ.set b (OB (enc i) (l++[Dt i]))) Q):Sem P ac n al σ Q:=by
 intro c W M Fz w a K R A hK;have af:=ID i l;have zt:∀(x:Nat) z,σ[x]? = some z->∃u,(σ.set b (OB (enc i) (l++[Dt i])))[x]? = some u/\z.sz<=u.sz/\(u.sz=z.sz->x≠b/\u=z):=λx z E=>by
  by_cases e:x=b
  ·subst e;rw[hb] at E;simp only[ab] at E;subst E;exact ⟨_,Ah hb,Nat.le_of_lt af,λe=>by omega⟩
  ·exact ⟨z,by rw[Mt e];exact E,bQ _,λ_=>⟨e,rfl⟩⟩
 have conv:∀{d:D}{v:Value},V σ M Fz w d v->V (σ.set b (OB (enc i) (l++[Dt i]))) (λx=>if x=b then none else M x) (λc=>Fz c∨M b=some c) w d v:=by
  intro d v G;induction G with
  |c h=>exact .c (h.mono λc W=>⟨.inl W,rfl⟩)
  |any v=>exact .any v
  |ptr a z h ak G=>
   obtain ⟨u,h1,h2,L⟩:=zt _ _ h;exact .ptr a u h1 (by omega) (λhe=>by obtain ⟨O,rfl⟩:=L (by omega);rw[if_neg O];exact G he)
  |sl a m cap ax z h ak G=>
   obtain ⟨u,h1,h2,L⟩:=zt _ _ h;exact .sl a m cap ax u h1 (by omega) (λhe=>by obtain ⟨O,rfl⟩:=L (by omega);rw[if_neg O];exact G he)
  |mp c z h G=>
   obtain ⟨u,h1,h2,L⟩:=zt _ _ h;exact .mp c u h1 (λhe=>by obtain ⟨O,rfl⟩:=L (by omega);rw[if_neg O];exact G he)
  |fn vs ws h1 h2 G hw a0 a1=>exact .fn vs ws h1 h2 a0 a1
  |agg vs h1 G ih=>exact .agg vs h1 ih
  |aB vs h1 G ih=>exact .aB vs h1 ih
 have a2:∀{z o},bb σ M Fz w z o->bb (σ.set b (OB (enc i) (l++[Dt i]))) (λx=>if x=b then none else M x) (λc=>Fz c∨M b=some c) w z o:=λ{z o} O=>by
  cases z with
  |cells cs=>obtain ⟨U,T,ho,hl,G⟩:=O;exact ⟨U,T,ho,hl,λi d v x y=>⟨conv (G i d v x y).1,(G i d v x y).2⟩⟩
  |map es a3=>obtain ⟨U,ho,hl,G⟩:=O;exact ⟨U,ho,hl,λi k d n e x y=>let ⟨p,q,r⟩:=G i k d n e x y;⟨p,q,conv r⟩⟩
  |gone n=>exact O.elim
 have R1:Rel (σ.set b (OB (enc i) (l++[Dt i]))) (λx=>if x=b then none else M x) (λc=>Fz c∨M b=some c) w:=by
  refine ⟨λx c E=>?_,λx x' c E X=>?_,λc W=>W.elim (R.fz c) λh=>(R.lt h).2,Gl.mono (λc h=>⟨.inl h,rfl⟩) R.gl⟩
  ·split at E
   ·simp at E
   rename_i ad;obtain ⟨h1,z,o,h2,L,O⟩:=R.blk x c E;exact ⟨λhf=>hf.elim h1 λhf=>ad (R.inj _ _ c E hf),z,o,by rw[Mt ad];exact h2,L,a2 O⟩
  ·split at E
   ·simp at E
   split at X
   ·simp at X
   exact R.inj _ _ c E X
 have E1:aW σ M Fz w (σ.set b (OB (enc i) (l++[Dt i]))) (λx=>if x=b then none else M x) (λc=>Fz c∨M b=some c) w:={
  size:=bQ _
  frame:=λ_ _ _=>rfl
  hY:=λx c h=>by
   split at h
   ·simp at h
   exact .inl ⟨x,h⟩
  fz:=λc h=>⟨.inl h,rfl⟩
  jj:=λc h=>h.elim .inl λh=>.inr (.inl ⟨b,h⟩)
  lm:=λc U T fr h=>⟨U,h,rfl⟩
  bX:=λx z h=>by obtain ⟨u,h1,h2,L⟩:=zt x z h;exact ⟨u,h1,h2,λe=>by rw[if_neg (L e).1]⟩
  out:=⟨rfl,rfl,rfl⟩ }
 have N0:Rn (Y:=Y) 0 σ [] id (λx=>x=b):=⟨bQ _,λi Z=>by omega,λi j Z=>by simp at Z,λi Z=>by simp at Z,λx E=>by subst E;exact ⟨i,l,hb⟩,λi Z=>by simp at Z⟩
 have A1:dq n (σ.set b (OB (enc i) (l++[Dt i]))) (λx=>if x=b then none else M x) (λc=>Fz c∨M b=some c) w ((t,.c (.bG false (l.map (enc i))))::al) a.tmps:=by
  refine ⟨A.1,λs d hs=>?_⟩;simp only[lk] at hs;split at hs
  ·rename_i a4;have:=bP a4;subst this;simp only[ab] at hs;subst hs;obtain ⟨v,h1,h2⟩:=A.2 _ _ hr;have L:=(b_.bG N0 rfl hb M Fz w v R h2).lU;exact ⟨v,h1,.c (L.mono λc W=>⟨W.imp id λ⟨x,E,h⟩=>E▸h,rfl⟩)⟩
  ·obtain ⟨v,h1,h2⟩:=A.2 s d hs;exact ⟨v,h1,conv h2⟩
 exact h c W _ _ w a K R1 A1 λx a5 σ' a' w' M' Fz' hQ hd R' A' E' hl=>hK x a5 σ' a' w' M' Fz' hQ hd R' A' (E1.trans E' (by simp)) (by simpa using hl)
end
theorem Sy{P:Program}{n:Nat}{ac:az}{Q:jr->AL->aa->Prop}:∀(os:List (Nat×Nat))(al a:TA)(σ σ':TH)(alD:AL)(σD:aa),OP os al σ=some (a,σ')->Ref al σ alD σD ->
  (∃pre,a=pre++al)/\Ext σ σ'/\((∀f g,Ref a σ' f g->Sem P ac n f g Q)->Sem P ac n alD σD Q):=by
 intro os;induction os with
 |nil=>intro al a σ σ' alD σD h k;simp only[OP,ab,aC] at h;obtain ⟨rfl,rfl⟩:=h;exact ⟨⟨[],rfl⟩,Ext.refl σ,λhs=>hs alD σD k⟩
 |cons o os ih=>
  intro al a σ σ' alD σD h k;obtain ⟨t,X⟩:=o;simp only[OP] at h;split at h
  ·rename_i i b v m G;split at h
   ·rename_i j l q u y;split at h
    ·rename_i z;have z:=bP z;subst z;obtain ⟨p,K⟩:=gG G;obtain ⟨d,L,N,O⟩:=k.rg t _ p K;have:=RT.c1 (by simp) N;subst this;obtain ⟨blk,A,R⟩:=O;rw[y] at A;simp only[ab] at A;subst A;obtain ⟨rfl,rfl⟩:=(R _ _ _ _ rfl).2 rfl;have x:BE (.row j l q u) (.row j (l++[Dt j]) (q+1) (u+1)):=⟨_,q+1,u+1,rfl,by omega,by omega,λe=>by omega,λe=>by omega⟩;have E:=Ext.set y x;have S:RH (σ.set b (.row j (l++[Dt j]) (q+1) (u+1))) (σD.set b (OB (enc j) (l++[Dt j]))):=k.hh.set y x rfl (λw Z e=>by simp at e);have T:Ref ((t,.v (.c (.sl j l)))::al) (σ.set b (.row j (l++[Dt j]) (q+1) (u+1))) ((t,.c (.bG false (l.map (enc j))))::alD) (σD.set b (OB (enc j) (l++[Dt j]))):=k.set S E (Or.inr rfl) True.intro;obtain ⟨⟨pre,e1⟩,U,W⟩:=ih _ _ _ _ _ _ h T;exact ⟨⟨pre++[(t,.v (.c (.sl j l)))],by simp_all⟩,Ext.trans k.hh E U,λhs=>Sem.frzR L (k.hh.row y) (W hs)⟩
    ·simp at h
   ·simp at h
  ·simp at h
theorem NJ{R:Type}{a b:Nat}{k:Option R}{r:R}(h:Dz a b k=some r):a=b/\k=some r:=by
 unfold Dz at h;split at h
 ·rename_i e;exact ⟨bP e,h⟩
 ·simp at h
theorem Uv{R:Type}{k:TA->Option R}{r:R}{σ:TH}{σD:aa}:∀(hs:List (Nat×Nat))(al:TA)(alD:AL),Pg hs al σ k=some r->Ref al σ alD σD ->
  ∃f a,k f=some r/\Ref f σ a σD/\(∃pre,f=pre++al)/\∀t d,lk t a=some d->lk t alD=some d:=by
 intro hs;induction hs with
 |nil=>intro al alD h g;exact ⟨al,alD,h,g,⟨[],rfl⟩,λ_ _ h=>h⟩
 |cons o hs ih=>
  intro al alD h g;obtain ⟨t,W⟩:=o;simp only[Pg] at h;split at h
  ·rename_i i b v m y;split at h
   ·rename_i j l x X z;split at h
    ·rename_i q;have q:=bP q;subst q;obtain ⟨A,E⟩:=NJ h;clear h;subst A;obtain ⟨p,G⟩:=gG y;obtain ⟨d,Z,K,_⟩:=g.rg t _ p G;have:=RT.c1 (by simp) K;subst this;have L:Ref ((t,.v (.c (.own j b x l.length)))::al) σ ((t,OS (ai j) b l.length)::alD) σD:=g.set g.hh (Ext.refl σ) (Or.inr rfl) ⟨_,z,λj' l' N O e=>by grind⟩;obtain ⟨f,a,S,T,⟨pre,g3⟩,U⟩:=ih _ _ E L;refine ⟨f,a,S,T,⟨pre++[(t,.v (.c (.own j b x l.length)))],by simp_all⟩,λs d hs=>?_⟩;have:=U s d hs;simp only[lk] at this;split at this
     ·rename_i u;have:=bP u
      grind [TC.er]
     ·exact this
    ·simp at h
   ·simp at h
  ·simp at h
theorem lZ.lks{m:Nat}{al i:AL}{σ:aa}(hm:m<=σ.length)(h:∀t d,lk t i=some d->lk t al=some d):lZ m al σ i σ:=⟨hm,λn M' Fz' w' j R A=>⟨M',Fz',R,⟨A.1,λt d o=>A.2 t d (h t d o)⟩,Bp.refl,λσ M Fz w _ E _=>E⟩⟩
end
end Go.Abs
end
section
namespace Go.Abs
noncomputable section
variable[Gl][Y:Ty]
def kZ{R:Type}(al:TA)(σ:TH)(K:KC R)(r:R):jr->AL->aa->Prop:=λx b d=>∃a σ',Ref a σ' b d/\(∃pre,a=pre++al)/\Ext σ σ'/\K x a σ'=some r
theorem iY{hs:List (Nat×Nat)}{md:List Nat}{al pre:TA}{σ:TH}(h:CH hs md al σ (pre++al)=true):∀y∈pre,y.1∈md∨∃b i l a d,(y.1,b)∈hs/\σ[b]? = some (.row i l a d):=by
 intro y f;unfold CH at h;rw[vU,Nat.add_sub_cancel,List.take_left,eG] at h;have:=h y f;rw[dQ,List.any_eq_true,List.any_eq_true] at this;rcases this with ⟨z,g,e⟩ | ⟨z,g,e⟩
 ·simp_all
 ·simp only[aU] at e
  grind [Nat.eq_of_beq_eq_true,rowAt]
theorem iJ{h:JH}{md:List Nat}{al a:TA}{σ σ1:TH}{x:l_ h.pl}(e:DU h md al σ a σ1=some x):CH h.hs md al σ a=true/\cW (h.pl++Du h.zs) 0 σ σ1=true/\NY a σ1 h.hs=true/\Ny σ.length σ1 h.zs=true/\FK a σ1 h.pl=some x:=by
 unfold DU at e
 grind
theorem pa{σ am:TH}(q:Ext σ am)(x:am.length=σ.length){b i d f:Nat}{l:List (TT i)}(h:am[b]? = some (.row i l d f)):∃i l d f,σ[b]? = some (.row i l d f):=by
 have a:b<σ.length:=by grind
 obtain ⟨o,k,g⟩:=q b _ (cE a);rw[h] at k;simp only[ab] at k;subst k;have u:σ[b]? = some σ[b]:=cE a;rw[u];cases p:σ[b] with
 |row i l d f=>simp_all
 |cells w y=>rw[p] at g;obtain ⟨_,_,e,_⟩:=g;simp at e
 |mp j st l v=>rw[p] at g;obtain ⟨_,_,_,_,e,_⟩:=g;simp at e
theorem jh(h:JH)(md:List Nat)(al:TA)(σ:TH)(x:l_ h.pl):∃pre,bS h md al σ x=pre++al/\∀y∈pre,(∃c,Pl.r y.1 c∈h.pl)∨(∃b i l g j,(y.1,b)∈h.hs/\(eC h md al σ x)[b]? = some (.row i l g j))∨y.1∈md:=by
 obtain ⟨d,v,o,_⟩:=Ap md al;obtain ⟨e,z,k,_⟩:=Fy (ni h.pl x σ) h.hs (Bl md al);obtain ⟨f,A,p⟩:=AT h.pl x (HI (ni h.pl x σ) h.hs (Bl md al));refine ⟨f++(e++d),by grind [bS],λy a=>?_⟩;rcases uQ.1 a with a | a
 ·grind
 ·rcases uQ.1 a with a | a
  ·obtain ⟨b,i,l,g,j,q,u,_⟩:=k y a;exact .inr (.inl ⟨b,i,l,g,j,q,((EL h.zs (ni h.pl x σ)).row b _ _ _ _).1 u⟩)
  grind
theorem uL{h:JH}{md:List Nat}{al:TA}{σ:TH}{x:l_ h.pl}(f:Ext σ (eC h md al σ x))(g:(eC h md al σ x).length=σ.length){t:Nat}{q:RV×Nat}(j:t∉md)(k:∀c,Pl.r t c∉h.pl)
  (o:∀b,(t,b)∈h.hs->∀i l a d,σ[b]?≠some (.row i l a d)) (p:dt t al=some q):dt t (bS h md al σ x)=some q:=by
 obtain ⟨pre,e,u⟩:=jh h md al σ x
 grind [jt,pa]
theorem Sem.ownC{P:Program}{n:Nat}{ac:az}{Q:jr->AL->aa->Prop}{al:AL}{σ:aa}(b j ai:Nat)(cs:List D)(Z:σ[b]? = some (.cells cs))(hj:cs[j]? = some (.c (.lit (.slice none 0 0))))(h:Sem P ac n al (σ.set b (.cells (cs.set j (.sl σ.length 0 0 ai 0)))++[.cells []]) Q):Sem P ac n al σ Q:=by
 intro c hc M Fz w a K R A hK;have ax:=(dT.1 Z).1;have zt:∀(i:Nat) E,σ[i]? = some E->∃G,(σ.set b (.cells (cs.set j (.sl σ.length 0 0 ai 0)))++[.cells []])[i]? = some G/\G.sz=E.sz:=λi E hi=>by
  have ad:=(dT.1 hi).1;rw[CU (by simp_all)];by_cases e:i=b
  ·grind [Ob.sz]
  grind
 have z:∀{d v},V σ M Fz w d v->V (σ.set b (.cells (cs.set j (.sl σ.length 0 0 ai 0)))++[.cells []]) M Fz w d v:=λh=>h.sub zt (λ_ _ h=>h) (λc h=>⟨h,rfl⟩) (λc u T fr h=>⟨u,h,rfl⟩);have a0:∀{E o},bb σ M Fz w E o->bb (σ.set b (.cells (cs.set j (.sl σ.length 0 0 ai 0)))++[.cells []]) M Fz w E o:=λ{E o} U=>by
  cases E with
  |cells cs=>obtain ⟨u,T,W,X,O⟩:=U;exact ⟨u,T,W,X,λi d v x y=>⟨z (O i d v x y).1,(O i d v x y).2⟩⟩
  |map es af=>obtain ⟨u,W,X,O⟩:=U;exact ⟨u,W,X,λi k d n e x y=>let ⟨p,q,r⟩:=O i k d n e x y;⟨p,q,z r⟩⟩
  |gone n=>exact U.elim
 have R1:Rel (σ.set b (.cells (cs.set j (.sl σ.length 0 0 ai 0)))++[.cells []]) M Fz w:=by
  refine ⟨λb' c h=>?_,R.inj,R.fz,R.gl⟩;obtain ⟨h1,E,o,L,h3,U⟩:=R.blk b' c h;have ad:=(dT.1 L).1;by_cases e:b'=b
  ·subst e;rw[Z] at L;simp only[ab] at L;subst L;refine ⟨h1,_,o,by rw[CU (by simp_all)];exact Ah Z,h3,?_⟩;obtain ⟨u,T,W,X,O⟩:=U;refine ⟨u,T,W,by simp_all,λi d v x y=>?_⟩;by_cases ej:j=i
   ·subst ej;rw[UJ,if_pos rfl] at x;split at x
    ·simp only[ab] at x;subst x;obtain ⟨v1,v2⟩:=O j _ v hj y;refine ⟨?_,v2⟩;rw[v1.bx];exact .sl none 0 0 (by simp) (.cells []) (by simp_all) (by omega) (λ_=>.inl ⟨rfl,rfl,rfl,rfl,rfl,rfl⟩)
    simp_all
   grind
  grind
 have E1:aW σ M Fz w (σ.set b (.cells (cs.set j (.sl σ.length 0 0 ai 0)))++[.cells []]) M Fz w:={
  size:=bQ _
  frame:=λ_ _ _=>rfl
  hY:=λb c h=>.inl ⟨b,h⟩
  fz:=λc h=>⟨h,rfl⟩
  jj:=λc h=>.inl h
  lm:=λc u T fr h=>⟨u,h,rfl⟩
  bX:=λb E h=>let ⟨G,h1,L⟩:=zt b E h;⟨G,h1,Nat.le_of_eq L.symm,λ_=>rfl⟩
  out:=⟨rfl,rfl,rfl⟩ }
 have A1:dq n (σ.set b (.cells (cs.set j (.sl σ.length 0 0 ai 0)))++[.cells []]) M Fz w al a.tmps:=⟨A.1,λs d hs=>let ⟨v,h1,L⟩:=A.2 s d hs;⟨v,h1,z L⟩⟩;exact h c hc M Fz w a K R1 A1 λx ak σ' a' w' M' Fz' hQ hd R' A' E' X=>hK x ak σ' a' w' M' Fz' hQ hd R' A' (E1.trans E' (by simp)) (by grind)
theorem CE{P:Program}{n:Nat}{ac:az}{Q:jr->AL->aa->Prop}:∀(os:List (Nat×Nat))(al f:TA)(σ σ':TH)(alD:AL)(σD:aa),zJ os al σ=some (f,σ')->Ref al σ alD σD ->
  (∃pre,f=pre++al)/\Ext σ σ'/\((∀y z,Ref f σ' y z->Sem P ac n y z Q)->Sem P ac n alD σD Q):=by
 intro os;induction os with
 |nil=>intro al f σ σ' alD σD h a;simp only[zJ,ab,aC] at h;obtain ⟨rfl,rfl⟩:=h;exact ⟨⟨[],rfl⟩,Ext.refl σ,λhs=>hs alD σD a⟩
 |cons o os ih=>
  intro al f σ σ' alD σD h a;obtain ⟨t,i⟩:=o;simp only[zJ] at h;split at h
  ·
   generalize (t-1048576) / 1024=b at h;generalize (t-1048576) % 1024=j at h;split at h
   ·rename_i w A G;split at h
    ·rename_i v0 hj;obtain ⟨ds,hd,_,_,X⟩:=a.hh.cells G;have ad:ds[j]? = some (.c (.lit (.slice none 0 0))):=by rw[X,gT,hj];rfl
     have R:BE (.cells w A) (.cells (w+1) (A.set j (w+1,.own i σ.length 0 0))):=⟨w+1,_,rfl,by omega,by simp,λk v x v1 K e N=>by grind⟩
     have K:Ext σ (σ.set b (.cells (w+1) (A.set j (w+1,.own i σ.length 0 0)))++[.row i [] 0 0]):=λg q e=>by
      obtain ⟨Z,N,O⟩:=Ext.set G R g q e
      grind
     have S:Ref al (σ.set b (.cells (w+1) (A.set j (w+1,.own i σ.length 0 0)))++[.row i [] 0 0]) alD (σD.set b (.cells (ds.set j (.sl σD.length 0 0 (ai i) 0)))++[.cells []]):=by
      refine ⟨⟨by simp[a.hh.len],λg q e=>?_,λg w' T e p E=>?_⟩,λt x p h=>?_⟩
      ·rcases pY g σ.length with u | u
       ·rw[CU (by simp_all)] at e;rw[CU (by rw[Vn,a.hh.len];exact u)];by_cases L:g=b
        ·subst L;rw[Ah G] at e;simp only[ab] at e;subst e;refine ⟨_,Ah hd,?_⟩;show _=TB.er _;simp only[TB.er,Ob.cells.injEq];rw[List.map_set,X,a.hh.len];simp[TC.er,OS]
        ·rw[Mt L] at e ⊢;exact a.hh.hp g q e
       ·rw[Jo (by simp_all),Vn] at e;rw[Jo (by rw[Vn,a.hh.len];exact u),Vn,a.hh.len];have:g-σ.length=0:=by grind
        rw[this] at e ⊢;simp only[List.getElem?_cons_zero,ab] at e;subst e;exact ⟨_,rfl,rfl⟩
      ·rcases pY g σ.length with u | u
       ·rw[CU (by simp_all)] at e;by_cases L:g=b
        ·subst L;rw[Ah G] at e;simp only[ab,TB.cells.injEq] at e;obtain ⟨rfl,rfl⟩:=e;rcases yBN E with E | rfl
         ·obtain ⟨U,g2⟩:=a.hh.hg g w A G p E;exact ⟨U.mono K,by omega⟩
         ·refine ⟨⟨.row i [] 0 0,?_,λj l lv cv e=>?_⟩,bQ _⟩
          ·simp_all
          grind
        ·rw[Mt L] at e;obtain ⟨U,g2⟩:=a.hh.hg g w' T e p E;exact ⟨U.mono K,g2⟩
       grind
      ·obtain ⟨d,u,W,h3⟩:=a.rg t x p h;exact ⟨d,u,W,h3.mono K []⟩
     obtain ⟨⟨pre,N⟩,O,e3⟩:=ih _ _ _ _ _ _ h S;refine ⟨⟨pre,N⟩,Ext.trans a.hh K O,λhs=>?_⟩
     grind [Sem.ownC]
    ·grind
    simp_all
   simp_all
  split at h
  ·rename_i ht;obtain ⟨p,E⟩:=gG ht;obtain ⟨d,u,W,_⟩:=a.rg t _ p E;have:=RT.c1 (by simp) W;subst this;have S:Ref ((t,.v (.c (.own i σ.length 0 0)))::al) (σ++[.row i [] 0 0]) ((t,OS (ai i) σD.length 0)::alD) (σD++[.cells []]):=
    a.set (a.hh.push (blk:=.row i [] 0 0) (ob:=.cells []) rfl (λw A e=>by simp at e)) (Ext.push σ _) (Or.inr (by rw[a.hh.len];rfl)) (lH (b:=0) rfl)
   obtain ⟨⟨pre,N⟩,O,e3⟩:=ih _ _ _ _ _ _ h S;refine ⟨⟨pre++[(t,.v (.c (.own i σ.length 0 0)))],by simp_all⟩,Ext.trans a.hh (Ext.push σ _) O,λhs=>?_⟩;exact Sem.own t (ai i) u (d:=OS (ai i) σD.length 0) (by simp[OS]) rfl (e3 hs)
  ·grind
  simp_all
theorem Sem.drwCQ{P:Program}{n:Nat}{al:AL}{σ:aa}{Q:jr->AL->aa->Prop}{orc:ey}{os:List av}{k:Nat}{i:List Nat}{p:Nat}(j:P.follows .mixedOrders=true)(O:jX P orc)
  (h:bj P orc (cZ os) os n al σ λu σ' o=>(dk i o&&kU i p (cZ os) os.length&&Nat.ble p (cZ os))=true/\Q .normal u σ'):Sem P (.AE os i k p) n al σ Q:=by
 obtain ⟨G,σ1,o,h,hp,L⟩:=h;intro c U M Fz w a K R A W;obtain ⟨e',X,Z⟩:=h _ A.bV.2;have ad:∀m r,gW P orc os i p m (sf n al) σ=some r->r=(e',σ1,o.flatMap (·.wr)):=by
  intro m r z;unfold gW at z;split at z
  ·rename_i e2 am af E;have:=Ee _ _ _ _ _ _ _ E X
   simp_all
  simp_all
 have E:gW P orc os i p (cZ os) (sf n al) σ=some (e',σ1,o.flatMap (·.wr)):=by
  unfold gW
  simp_all
 have h4:ij P orc 1 (.AE os i k p) (sf n al) σ []=some (.normal,e',σ1,o.flatMap (·.wr)++[]):=by grind [ij]
 have:Sem P (.AE os i k p) n al σ Q:=Sem.yS j O (k:=1) (wr:=[]) (e:=sf n al) (e':=e') (x:=.normal) (σ':=σ1) h4 rfl Z L;exact this c U M Fz w a K R A W
theorem Pa(g:Ga)(cy:g.P.follows .mixedOrders=true)(hT:dB g.P g.S)(hI:MT g){R:Type}:∀(ac:az)(q:Nat)(al:TA)(σ:TH)(K:KC R)(r:R)(alD:AL)(σD:aa),tC g ac q al σ K=some r->Ref al σ alD σD ->
  Sem g.P ac g.n alD σD (kZ al σ K r):=by
 have O:pj g.P (xw (A_ g.S)):=jv (If hT);intro ac;induction ac with
 |skip=>intro q al σ K r alD σD h U;exact Sem.skip cy ⟨al,σ,U,⟨[],rfl⟩,Ext.refl σ,h⟩
 |exit id=>intro q al σ K r alD σD h U;exact Sem.exit cy ⟨al,σ,U,⟨[],rfl⟩,Ext.refl σ,h⟩
 |ret=>intro q al σ K r alD σD h U;exact Sem.ret cy ⟨al,σ,U,⟨[],rfl⟩,Ext.refl σ,h⟩
 |stuck=>grind [tC]
 |Qx l=>intro q al σ K r alD σD h U;exact Sem.Qx ⟨al,σ,U,⟨[],rfl⟩,Ext.refl σ,h⟩
 |Mu l a rr bh b5=>
  intro q al σ K r alD σD h U;have ev:∀{i:Nat},Nat.beq (i % 2) 0=true->i % 2=0:=λh=>bP h;simp only[tC] at h;split at h
  ·
   refine Sem.Mu 1 ((bh _ _ _ _ _ alD σD h U).cT λex bt a5 hP=>.inl ?_);obtain ⟨T,σ1,W,⟨pre,e1⟩,X,N⟩:=hP;cases ex with
   |normal=>exact ⟨T,σ1,W,⟨pre,e1⟩,X,N⟩
   |ret=>exact ⟨T,σ1,W,⟨pre,e1⟩,X,N⟩
   |exit i=>
    dsimp only at N;split at N
    ·rename_i hi;refine .inl ⟨bP hi,bt,a5,lZ.refl (by rw[U.hh.len,W.hh.len];exact X.len),KW.succ ((b5 _ _ _ _ _ bt a5 N W).cT λex u E hP=>.inl ?_)⟩;obtain ⟨al2,am,g1,⟨af,e2⟩,g3,g4⟩:=hP;have fin:∀{ex:jr},K ex al2 am=some r->kZ al σ K r ex u E:=λg4=>⟨al2,am,g1,⟨af++pre,by simp_all⟩,Ext.trans U.hh X g3,g4⟩;cases ex with
     |normal=>exact fin g4
     |ret=>exact fin g4
     |exit i=>
      dsimp only at g4;split at g4
      ·rename_i he;exact .inr ⟨ev he,fin g4⟩
      simp_all
    ·split at N
     ·rename_i he;exact .inr ⟨ev he,T,σ1,W,⟨pre,e1⟩,X,N⟩
     simp_all
  ·
   rename_i S hJ;have bi:∀(k:Nat)(x:l_ S.pl)(u:AL)(E:aa),Ext σ (eC S (bK a++bK rr) al σ x)->HS (S.pl++Du S.zs) σ (eC S (bK a++bK rr) al σ x)->(eC S (bK a++bK rr) al σ x).length=σ.length->Ref (bS S (bK a++bK rr) al σ x) (eC S (bK a++bK rr) al σ x) u E ->
     bg (λrec x=>tC g rr (2 * q+1) (bS S (bK a++bK rr) al σ x) (eC S (bK a++bK rr) al σ x) λex T σ1=>match ex with
      |.exit i => match Nat.beq i (2 * l + 1) with
       |true=>match wI S (bK a++bK rr) (bS S (bK a++bK rr) al σ x) (eC S (bK a++bK rr) al σ x) T σ1 with | some x'=>rec x' | none=>none
       |false=>match Nat.beq (i % 2) 0 with | true=>K (.exit i) T σ1 | false=>none
      |ex=>K ex T σ1) k x=some r->KW g.P rr l k g.n u E (kZ al σ K r):=by
    intro k;induction k with
    |zero=>grind [bg]
    |succ k bk=>
     intro x u E x1 x2 x3 x4 h;have B:=b5 _ _ _ _ _ u E (show tC g rr (2 * q+1) (bS S (bK a++bK rr) al σ x) (eC S (bK a++bK rr) al σ x) _=some r from h) x4;refine KW.succ (B.cT λex a6 a7 hP=>.inl ?_);obtain ⟨T,σ1,W,⟨pre,rfl⟩,X,N⟩:=hP;obtain ⟨ak,eA,_⟩:=jh S (bK a++bK rr) al σ x;have fin:∀{ex:jr},K ex (pre++bS S (bK a++bK rr) al σ x) σ1=some r->kZ al σ K r ex a6 a7:=λN=>⟨_,σ1,W,⟨pre++ak,by simp_all⟩,Ext.trans U.hh x1 X,N⟩;cases ex with
     |normal=>exact fin N
     |ret=>exact fin N
     |exit i=>
      dsimp only at N;split at N
      ·rename_i hi;split at N
       ·rename_i xv hx;obtain ⟨af,am,bu,bv,w1,bw,b0,hx⟩:=qv x4 W X hx;obtain ⟨d1,d2,d3,d5,d4⟩:=iJ hx;have a3:=iY d1;obtain ⟨f1,f2,f3,a2,a0,f4,f5⟩:=iQ (md:=bK a++bK rr) U bw (λt q h=>by rw[eA,<-tD];exact qx h)
         (λt q m1 m2 m3 h=>jt (λy hy e=>(a3 y hy).elim (λz=>m1 (e▸z)) λ⟨b,i,l,lv,cv,z1,z2⟩=>let ⟨i,l,lv,cv,z3⟩:=pa x1 x3 z2;m3 b (e▸z1) i l lv cv z3) (uL x1 x3 m1 m2 m3 h)) (x2.trans (PN x4.hh d2 b0)) d3 (by simp_all) d4
        refine .inl ⟨bP hi,a2,a0,?_,bk xv a2 a0 f1 f2 f3 f5 N⟩;rw[x4.hh.len,x3];rw[x3] at w1;exact w1.trans f4
       simp_all
      ·split at N
       ·rename_i he;exact .inr ⟨ev he,fin N⟩
       simp_all
   refine Sem.Mu g.N ((bh _ _ _ _ _ alD σD h U).cT λex bt a5 hP=>.inl ?_);obtain ⟨T,σ1,W,⟨pre,rfl⟩,X,N⟩:=hP;have fin:∀{ex:jr},K ex (pre++al) σ1=some r->kZ al σ K r ex bt a5:=λN=>⟨_,σ1,W,⟨pre,rfl⟩,X,N⟩;cases ex with
   |normal=>exact fin N
   |ret=>exact fin N
   |exit i=>
    dsimp only at N;split at N
    ·rename_i hi;split at N
     ·grind
     ·rename_i x0 hx;obtain ⟨af,am,bu,bv,w1,bw,b0,hx⟩:=qv U W X hx;obtain ⟨d1,d2,d3,d5,d4⟩:=iJ hx;have a3:=iY d1;obtain ⟨f1,f2,f3,a2,a0,f4,f5⟩:=iQ (md:=bK a++bK rr) U bw (λt q h=>qx h)
       (λt q m1 _ m3 h=>jt (λy hy e=>(a3 y hy).elim (λz=>m1 (e▸z)) λ⟨b,i,l,lv,cv,z1,z2⟩=>m3 b (e▸z1) i l lv cv z2) h) (PN U.hh d2 b0) d3 d5 d4
      refine .inl ⟨bP hi,a2,a0,?_,bi g.N x0 a2 a0 f1 f2 f3 f5 N⟩;rw[U.hh.len];exact w1.trans f4
    ·split at N
     ·rename_i he;exact .inr ⟨ev he,fin N⟩
     simp_all
 |wm os=>
  intro q al σ K r alD σD h U;simp only[tC] at h;split at h
  ·split at h
   ·rename_i hU;obtain ⟨oz,o1,_,o3⟩:=qw g q O hI 1000 0 os [] al σ _ r alD σD h (qu hU) U (λp b hk=>by grind [vB]) (λp b hk=>by grind [vB]);refine Sem.lP cy o1 (o3.mono λa s i hA=>?_);obtain ⟨a1,σ',is,W,h2,X,_,N⟩:=hA;exact ⟨a1,σ',W,h2,X,N⟩
   simp_all
  ·rename_i S hJ;split at h
   ·rename_i L G hz hU;obtain ⟨⟨bd,eZ⟩,xZ,sZ⟩:=Sy (P:=g.P) (n:=g.n) (ac:=.wm os) (Q:=kZ al σ K r) S.os al L σ G alD σD hz U;refine sZ λbl a8 be=>?_;obtain ⟨oz,o1,_,o3⟩:=qw g q O hI 1000 0 os [] L G _ r bl a8 h (qu hU) be (λp b hk=>by grind [vB]) (λp b hk=>by grind [vB]);refine Sem.cT (Sem.lP (Q:=λx Z ad=>x=.normal/\aA L G (λa1 σ' _=>Pg S.hs a1 σ' λa1=>K .normal a1 σ') r Z ad []) cy o1 (o3.mono λa s i hA=>⟨rfl,?_⟩)) λx Z ad hA=>.inr ?_
    ·obtain ⟨a1,σ',is,W,h2,X,h5,N⟩:=hA;exact ⟨a1,σ',[],W,h2,X,.nil,N⟩
    ·obtain ⟨rfl,a1,σ',is,W,⟨pre,e1⟩,X,_,N⟩:=hA;obtain ⟨al2,u,g1,g2,⟨af,e2⟩,g4⟩:=Uv S.hs a1 Z N W;exact ⟨u,ad,lZ.lks (by rw[be.hh.len,W.hh.len];exact X.len) g4,al2,σ',g2,⟨af++(pre++bd),by simp_all⟩,Ext.trans U.hh xZ X,g1⟩
   ·simp at h
 |AE os d6 k p=>
  intro q al σ K r alD σD h U;simp only[tC] at h;split at h
  ·simp at h
  rename_i hU;split at h
  ·obtain ⟨oz,o1,_,o3⟩:=qw g q O hI 1000 os.length os [] al σ _ r alD σD h (qu hU) U (λp b hk=>by grind [vB]) (λp b hk=>by grind [vB]);refine Sem.Y_ cy o1 (o3.mono λa s i hA=>?_);obtain ⟨a1,σ',is,W,h2,X,h5,N⟩:=hA;dsimp only at N;split at N
   ·rename_i hc;simp only[aU] at hc ⊢;exact ⟨⟨⟨mw h5 hc.1.1,hc.1.2⟩,hc.2⟩,a1,σ',W,h2,X,N⟩
   simp_all
  split at h
  ·rename_i pi _ n0 hl;split at h
   ·rename_i hc;obtain ⟨oz,o1,_,o3⟩:=qw g q O hI 1000 n0 (ky pi os) [] al σ _ r alD σD h (qu hc) U (λp b hk=>by grind [vB]) (λp b hk=>by grind [vB]);refine Sem.drwG cy o1 hl (o3.mono λa s i hA=>?_);obtain ⟨a1,σ',is,W,h2,X,h5,N⟩:=hA;dsimp only at N;split at N
    ·rename_i hc;exact ⟨Ku h5 hc,a1,σ',W,h2,X,N⟩
    simp_all
   simp_all
  split at h
  ·obtain ⟨oz,o1,_,o3⟩:=qw g q O hI 1000 (cZ os) os [] al σ _ r alD σD h (qu hU) U (λp b hk=>by grind [vB]) (λp b hk=>by grind [vB]);refine Sem.drwCQ cy o1 (o3.mono λa s i hA=>?_);obtain ⟨a1,σ',is,W,h2,X,h5,N⟩:=hA;dsimp only at N;split at N
   ·rename_i hc;simp only[aU] at hc ⊢;exact ⟨⟨⟨mw h5 hc.1.1,hc.1.2⟩,hc.2⟩,a1,σ',W,h2,X,N⟩
   simp_all
  ·obtain ⟨oz,o1,_,o3⟩:=qw g q O hI 1000 k os [] al σ _ r alD σD h (qu hU) U (λp b hk=>by grind [vB]) (λp b hk=>by grind [vB]);refine Sem.drwQ cy o1 (o3.mono λa s i hA=>?_);obtain ⟨a1,σ',is,W,h2,X,h5,N⟩:=hA;dsimp only at N;split at N
   ·rename_i hc;simp only[aU] at hc ⊢;exact ⟨⟨⟨mw h5 hc.1.1,hc.1.2⟩,hc.2⟩,a1,σ',W,h2,X,N⟩
   simp_all
 |seq a b bh a9=>
  intro q al σ K r alD σD h U;simp only[tC] at h;split at h
  ·
   have A:=bh _ _ _ _ _ alD σD h U;refine Sem.gR (A.cT λx Z ad hP=>.inl ?_);obtain ⟨T,σ1,W,⟨pre,rfl⟩,X,N⟩:=hP;cases x with
   |normal=>refine .inl ((a9 _ _ _ _ _ Z ad N W).cT λx u E hP=>.inl ?_);obtain ⟨al2,am,g1,⟨af,rfl⟩,g3,g4⟩:=hP;exact ⟨_,am,g1,⟨af++pre,by simp_all⟩,Ext.trans U.hh X g3,g4⟩
   |exit i=>exact ⟨_,σ1,W,⟨pre,rfl⟩,X,N⟩
   |ret=>exact ⟨_,σ1,W,⟨pre,rfl⟩,X,N⟩
  ·
   rename_i S hJ;split at h
   ·simp at h
   rename_i L G hz;obtain ⟨⟨bd,eZ⟩,xZ,sZ⟩:=CE (P:=g.P) (n:=g.n) (ac:=.seq a b) (Q:=kZ al σ K r) S.os al L σ G alD σD hz U;refine sZ λbl a8 be=>?_;have back:∀{x:jr}{Z:AL}{ad:aa},kZ L G K r x Z ad->kZ al σ K r x Z ad:=λ⟨T,σ1,W,⟨pre,e⟩,X,N⟩=>⟨T,σ1,W,⟨pre++bd,by simp_all⟩,Ext.trans U.hh xZ X,N⟩;refine Sem.cT ?_ (λx a1 σ' hP=>.inl (back hP));clear back sZ xZ eZ;replace U:=be;have A:=bh _ _ _ _ _ bl a8 (show tC g a (2 * q) L G _=some r from h) U;refine Sem.gR (A.cT λx Z ad hP=>.inl ?_);obtain ⟨T,σ1,W,⟨pre,rfl⟩,X,N⟩:=hP;cases x with
   |normal=>
    dsimp only at N;split at N
    ·rename_i xv hx;obtain ⟨pre,σ1,Z,ad,w1,W,X,hx⟩:=qv U W X hx;obtain ⟨c1,c2,c3,c5,c4⟩:=iJ hx;have a3:=iY c1;obtain ⟨e1,_,e3,u,E,e4,e5⟩:=iQ (md:=bK a) U W (λt q h=>qx h) (λt q hm _ m3 h=>jt (λy hy e=>(a3 y hy).elim (λz=>hm (e▸z)) λ⟨b,i,l,lv,cv,z1,z2⟩=>m3 b (e▸z1) i l lv cv z2) h) (PN U.hh c2 X) c3 c5 c4;refine .inr ⟨u,E,by rw[U.hh.len];exact w1.trans e4,(a9 _ _ _ _ _ u E N e5).cT λx a6 a7 hP=>.inl ?_⟩;obtain ⟨al2,am,g1,⟨af,rfl⟩,g3,g4⟩:=hP;obtain ⟨ak,eA,_⟩:=jh S (bK a) L G xv;exact ⟨_,am,g1,⟨af++ak,by simp_all⟩,Ext.trans U.hh e1 g3,g4⟩
    simp_all
   |exit i=>exact ⟨_,σ1,W,⟨pre,rfl⟩,X,N⟩
   |ret=>exact ⟨_,σ1,W,⟨pre,rfl⟩,X,N⟩
 |Mm o ps a b bh a9=>
  intro q al σ K r alD σD h U;simp only[tC] at h;split at h
  ·simp at h
  rename_i S hJ;split at h
  ·simp at h
  rename_i L G hz;obtain ⟨⟨bd,eZ⟩,xZ,sZ⟩:=CE (P:=g.P) (n:=g.n) (ac:=.Mm o ps a b) (Q:=kZ al σ K r) S.os al L σ G alD σD hz U;refine sZ λbl a8 be=>?_;have back:∀{x:jr}{Z:AL}{ad:aa},kZ L G K r x Z ad->kZ al σ K r x Z ad:=λ⟨T,σ1,W,⟨pre,e⟩,X,N⟩=>⟨T,σ1,W,⟨pre++bd,by simp_all⟩,Ext.trans U.hh xZ X,N⟩;refine Sem.cT ?_ (λx a1 σ' hP=>.inl (back hP));clear back sZ xZ eZ;replace U:=be;clear be hz;split at h
  ·rename_i x0 p b1;obtain ⟨_,c2,c3,c5,c4⟩:=iJ b1;obtain ⟨e1,e2,e3,u,E,e4,e5⟩:=iQ (md:=[]) U U (λt q h=>⟨q,h⟩) (λt q _ _ _ h=>h) (PN U.hh c2 (Ext.refl G)) c3 c5 c4;have hr:ca (eC S [] L G x0) u (zO (bS S [] L G x0) [] none):=jU e5 (λp b hk=>by grind [vB]) (by simp);split at h
   ·rename_i gf bc hc;obtain ⟨ck,_⟩:=hr.c hc (by simp);split at h
    ·rename_i w0 v0 i l s cm co hb;simp only[aU] at hb;obtain ⟨hp,c0,b6⟩:=hb;have Dr:=hT.iter co;unfold itF at h;split at h
     ·rename_i i' j f;split at h
      ·rename_i l' c6;obtain ⟨rfl,rfl⟩:=IU c6;cases hf:f (l',()) with
       |none=>dsimp only at h;rw[hf] at h;simp at h
       |some items=>
       dsimp only at h;rw[hf] at h;simp only[Option.bind_some] at h;have c7:=Dr l' items hf;have b7:∀{σ1:TH}{a5:aa},RH σ1 a5->HS (S.pl++Du S.zs) G σ1->a5[bc]? = some (.cells [.c (.bG false (l'.map (enc i)))]):=λ{σ1 a5} H hs=>by
        obtain ⟨da,g1,w1,c8,rfl,g2,g3⟩:=hs bc _ cm;cases c8 with
        |nil=>simp at g2
        |cons y ys=>
         have:ys=[]:=QI (by simpa using g2);subst this;have:=g3 0 _ _ rfl rfl λc hm=>by have:=eG.1 b6 _ hm;simp at this
         subst this;obtain ⟨ob,o1,o2⟩:=H.hp bc _ g1;rw[o1,show ob=_ from o2];rfl
       have bi:∀(items:List (TT j))(x:l_ S.pl)(u:AL)(E:aa),Ext G (eC S [] L G x)->HS (S.pl++Du S.zs) G (eC S [] L G x)->(eC S [] L G x).length=G.length->Ref (bS S [] L G x) (eC S [] L G x) u E ->
         Mc (λy x rec=>tC g a (2 * q) ((p,.v (.agg (exp j y)))::bS S [] L G x) (eC S [] L G x) λex T σ1=>match ex with
          |.normal => tC g b (2 * q + 1) T σ1 λex _ am => match ex with
           |.normal=>match wI S [] (bS S [] L G x) (eC S [] L G x) (bS S [] L G x) am with | some x'=>rec x' | none=>none
           |ex=>K ex (bS S [] L G x) am
          |_=>none) (λx=>K .normal (bS S [] L G x) (eC S [] L G x)) items x=some r ->
         YB g.P a b g.n [p] bc (.bG false (l'.map (enc i))) a8.length (kZ L G K r) (items.map λa=>[ST (enc j a)]) u E:=by
        intro items;induction items with
        |nil=>intro x u E x1 x2 x3 x4 h;obtain ⟨ak,eA,_⟩:=jh S [] L G x;exact ⟨⟨b7 x4.hh x2,by rw[x4.hh.len,x3,U.hh.len]⟩,_,_,x4,⟨ak,eA⟩,x1,h⟩
        |cons y items bk=>
         intro x u E x1 x2 x3 x4 h;obtain ⟨ak,eA,_⟩:=jh S [] L G x;refine ⟨⟨b7 x4.hh x2,by rw[x4.hh.len,x3,U.hh.len]⟩,?_⟩;have R1:Ref ((p,.v (.agg (exp j y)))::bS S [] L G x) (eC S [] L G x) (Fm [p] [ST (enc j y)] u) E:=x4.set x4.hh (Ext.refl _) (bT.zj (.st j) y) (xq (.st j) y);refine (bh _ _ _ _ _ _ E (show tC g a (2 * q) ((p,.v (.agg (exp j y)))::bS S [] L G x) (eC S [] L G x) _=some r from h) R1).cT λex a6 a7 hP=>.inl ?_;obtain ⟨T,σ1,W,_,X,N⟩:=hP;cases ex with
         |normal=>
          refine ⟨rfl,(a9 _ _ _ _ _ a6 a7 (show tC g b (2 * q+1) T σ1 _=some r from N) W).cT λex a2 a0 hP=>.inl ?_⟩;obtain ⟨al2,am,g1,_,g3,g4⟩:=hP;have x5:Ext (eC S [] L G x) am:=Ext.trans x4.hh X g3;have R4:Ref (bS S [] L G x) am u a0:=⟨g1.hh,λt v q hq=>let ⟨d,m1,m2,m3⟩:=x4.rg t v q hq;⟨d,m1,m2,m3.mono x5 []⟩⟩;cases ex with
          |normal=>
           dsimp only at g4;split at g4
           ·rename_i xv hx;obtain ⟨pre,d7,bu,bv,w1,k1,k3,hx⟩:=qv (pre:=[]) x4 R4 x5 hx;obtain ⟨d1,d2,d3,d5,d4⟩:=iJ hx;have a3:=iY d1;obtain ⟨f1,f2,f3,b2,b3,f4,f5⟩:=iQ (md:=[]) U k1 (λt q h=>by rw[eA,<-tD];exact qx h)
             (λt q m1 m2 m3 h=>jt (λy hy e=>(a3 y hy).elim (λz=>m1 (e▸z)) λ⟨b,i,l,lv,cv,z1,z2⟩=>let ⟨i,l,lv,cv,z3⟩:=pa x1 x3 z2;m3 b (e▸z1) i l lv cv z3) (uL x1 x3 m1 m2 m3 h)) (x2.trans (PN x4.hh d2 k3)) d3 (by simp_all) d4
            exact ⟨b2,b3,by rw[U.hh.len];rw[x3] at w1;exact w1.trans f4,bk xv b2 b3 f1 f2 f3 f5 g4⟩
           simp_all
          |exit i=>exact ⟨_,am,R4,⟨ak,eA⟩,Ext.trans U.hh x1 x5,g4⟩
          |ret=>exact ⟨_,am,R4,⟨ak,eA⟩,Ext.trans U.hh x1 x5,g4⟩
         |exit i=>simp at N
         |ret=>simp at N
       have c9:a8.length=E.length:=by rw[e5.hh.len,e3,U.hh.len]
       refine Sem.Xw (by rw[U.hh.len];exact e4) (Sem.Mm (al:=u) (σ:=E) (by cases o <;> exact ck) c0 c7 (λds hd=>?_) (λp' b8=>?_) (c9▸bi items x0 u E e1 e2 e3 e5 h))
       ·obtain ⟨y,_,rfl⟩:=gZ.1 hd;rfl
       ·simp only[Mq] at b8;subst b8;exact oS.mp hp
      ·simp at h
     ·simp at h
    ·simp at h
   ·simp at h
  ·simp at h
 |cond c a b bh a9=>
  intro q al σ K r alD σD h U;simp only[tC] at h;have hr:ca σ alD (zO al [] none):=jU U (λp b hk=>by grind [vB]) (by simp);split at h
  ·rename_i hc;obtain ⟨W,_⟩:=hr.c hc (by simp);exact Sem.cond (b:=true) (by cases c <;> exact W) (λ_=>bh _ _ _ _ _ alD σD h U) (λe=>by simp at e)
  ·rename_i hc;obtain ⟨W,_⟩:=hr.c hc (by simp);exact Sem.cond (b:=false) (by cases c <;> exact W) (λe=>by simp at e) (λ_=>a9 _ _ _ _ _ alD σD h U)
  ·rename_i e hc;obtain ⟨W,_⟩:=hr.c hc (by simp);refine Sem.cond (b:=e) (by cases c <;> exact W) (λhe=>?_) (λhe=>?_)
   ·grind
   grind
  simp_all
 |block id b a9=>
  intro q al σ K r alD σD h U;simp only[tC] at h;refine Sem.block ((a9 _ _ _ _ _ alD σD h U).cT λx Z ad hP=>.inl ⟨_,_,.refl,?_⟩);obtain ⟨T,σ1,W,h2,X,N⟩:=hP;cases x with
  |normal=>exact ⟨T,σ1,W,h2,X,N⟩
  |ret=>exact ⟨T,σ1,W,h2,X,N⟩
  |exit i=>
   dsimp only at N;refine ⟨λe=>?_,λe=>?_⟩
   ·subst e;have:Nat.beq i i=true:=by simp
    rw[this] at N;exact ⟨T,σ1,W,h2,X,N⟩
   ·have:Nat.beq i id=false:=by
     grind [Nat.eq_of_beq_eq_true]
    rw[this] at N;exact ⟨T,σ1,W,h2,X,N⟩
 |loop b a9=>
  intro q al σ K r alD σD h U;simp only[tC] at h;split at h
  ·simp at h
  ·rename_i S hJ;split at h
   ·rename_i nu hu;refine Sem.loop nu ?_;have bi:∀(k:Nat)(al2:TA)(am:TH)(u:AL)(E:aa),(∃pre,al2=pre++al)->Ext σ am->Ref al2 am u E ->
      lpU (λrec al σ=>tC g b (2 * q) al σ λex T σ1=>match ex with | .normal=>rec T σ1 | ex=>K ex T σ1) k al2 am=some r->iU g.P b k g.n u E (kZ al σ K r):=by
     intro k;induction k with
     |zero=>grind [lpU]
     |succ k bk=>
      intro al2 am u E x1 x2 x4 h;have B:=a9 _ _ _ _ _ u E (show tC g b (2 * q) al2 am _=some r from h) x4;refine iU.succ (B.cT (Q':=λx T σ1=>match x with | .normal=>∃al2 am,Wk E.length T σ1 al2 am/\iU g.P b k g.n al2 am (kZ al σ K r) | x=>∃al2 am,Wk E.length T σ1 al2 am/\kZ al σ K r x al2 am) λex a6 a7 hP=>.inl ?_);obtain ⟨T,σ1,W,⟨pre,rfl⟩,X,N⟩:=hP;obtain ⟨af,rfl⟩:=x1;cases ex with
      |normal=>exact ⟨_,_,.refl,bk _ _ _ _ ⟨pre++af,by simp_all⟩ (Ext.trans U.hh x2 X) W N⟩
      |exit i=>exact ⟨_,_,.refl,_,σ1,W,⟨pre++af,by simp_all⟩,Ext.trans U.hh x2 X,N⟩
      |ret=>exact ⟨_,_,.refl,_,σ1,W,⟨pre++af,by simp_all⟩,Ext.trans U.hh x2 X,N⟩
    exact bi nu al σ alD σD ⟨[],rfl⟩ (Ext.refl σ) U h
   split at h
   ·simp at h
   rename_i L G hz;obtain ⟨⟨bd,eZ⟩,xZ,sZ⟩:=CE (P:=g.P) (n:=g.n) (ac:=.loop b) (Q:=kZ al σ K r) S.os al L σ G alD σD hz U;refine sZ λbl a8 be=>?_;have back:∀{x:jr}{Z:AL}{ad:aa},kZ L G K r x Z ad->kZ al σ K r x Z ad:=λ⟨T,σ1,W,⟨pre,e⟩,X,N⟩=>⟨T,σ1,W,⟨pre++bd,by simp_all⟩,Ext.trans U.hh xZ X,N⟩;refine Sem.cT ?_ (λx a1 σ' hP=>.inl (back hP));clear back sZ xZ eZ;replace U:=be;clear be hz;split at h
   ·
    rename_i zz zs d8;split at h
    ·simp at h
    rename_i a4 ax he;obtain ⟨rfl,le,ze,db,dc,se,Re,xe⟩:=Xi (m:=G.length) (zz::zs) U (bQ _) he;split at h
    ·simp at h
    rename_i x0 b1;have b4:G.length<=ax.length:=by omega
    obtain ⟨_,c2,c3,c5,c4⟩:=iJ b1;obtain ⟨e1,e2,e3,u,E,e4,e5⟩:=iQ (md:=bK b) Re Re (λt q h=>⟨q,h⟩) (λt q _ _ _ h=>h) (PN Re.hh c2 (Ext.refl ax)) c3 c5 c4;refine Sem.loop g.N (vP.start (al:=u) (σ:=E) (by rw[U.hh.len];exact se.trans (e4.le b4)) ?_);have bi:∀(k:Nat)(x:l_ S.pl)(u:AL)(E:aa),Ext ax (eC S (bK b) a4 ax x)->HS (S.pl++Du S.zs) ax (eC S (bK b) a4 ax x)->(eC S (bK b) a4 ax x).length=ax.length->Ref (bS S (bK b) a4 ax x) (eC S (bK b) a4 ax x) u E ->
      bg (λrec x=>tC g b (2 * q) (bS S (bK b) a4 ax x) (eC S (bK b) a4 ax x) λex T σ1=>match ex with
       |.normal => match Yb (T.length - (bS S (bK b) a4 ax x).length) (zz :: zs) T σ1 with
        |none=>none
        |some (T,σ1)=>match wI S (bK b) (bS S (bK b) a4 ax x) (eC S (bK b) a4 ax x) T σ1 with | some x'=>rec x' | none=>none
       |ex=>K ex T σ1) k x=some r->vP g.P b k g.n a8 u E (kZ a4 G K r):=by
     intro k;induction k with
     |zero=>grind [bg]
     |succ k bk=>
      intro x u E x1 x2 x3 x4 h;have B:=a9 _ _ _ _ _ u E (show tC g b (2 * q) (bS S (bK b) a4 ax x) (eC S (bK b) a4 ax x) _=some r from h) x4;refine vP.succ (B.cT λex a6 a7 hP=>.inl ?_);obtain ⟨T,σ1,W,⟨pre,rfl⟩,X,N⟩:=hP;obtain ⟨ak,eA,_⟩:=jh S (bK b) a4 ax x;cases ex with
      |normal=>
       dsimp only at N;split at N
       ·grind
       rename_i dd df b9;rw[show (pre++bS S (bK b) a4 ax x).length-(bS S (bK b) a4 ax x).length=pre.length by simp_all] at b9;have ch:ax.length<=σ1.length:=by rw[<-x3];exact X.len
       obtain ⟨di,dp,d0,rfl,sm,Rm,xm⟩:=VD (m:=G.length) x4 (zz::zs) X W rfl (λz hz=>⟨(ze z hz).1,xD (ze z hz).2 ch⟩) (jI b4 ch) b9;split at N
       ·rename_i xv hx;obtain ⟨af,am,bu,bv,w1,bw,b0,hx⟩:=qv x4 Rm xm hx;obtain ⟨d1,d2,d3,d5,d4⟩:=iJ hx;have a3:=iY d1;obtain ⟨f1,f2,f3,a2,a0,f4,f5⟩:=iQ (md:=bK b) Re bw (λt q h=>by rw[eA,<-tD];exact qx h)
         (λt q m1 m2 m3 h=>jt (λy hy e=>(a3 y hy).elim (λz=>m1 (e▸z)) λ⟨b,i,l,lv,cv,z1,z2⟩=>let ⟨i,l,lv,cv,z3⟩:=pa x1 x3 z2;m3 b (e▸z1) i l lv cv z3) (uL x1 x3 m1 m2 m3 h)) (x2.trans (PN x4.hh d2 b0)) d3 (by simp_all) d4
        refine ⟨a2,a0,?_,bk xv a2 a0 f1 f2 f3 f5 N⟩;rw[U.hh.len];rw[x3] at w1;exact sm.trans ((w1.trans f4).le b4)
       simp_all
      |exit i=>exact ⟨_,σ1,W,⟨pre++ak,by simp_all⟩,Ext.trans U.hh xe (Ext.trans Re.hh x1 X),N⟩
      |ret=>exact ⟨_,σ1,W,⟨pre++ak,by simp_all⟩,Ext.trans U.hh xe (Ext.trans Re.hh x1 X),N⟩
    exact bi g.N x0 u E e1 e2 e3 e5 h
   split at h
   ·simp at h
   ·rename_i x0 b1;obtain ⟨_,c2,c3,c5,c4⟩:=iJ b1;obtain ⟨e1,e2,e3,u,E,e4,e5⟩:=iQ (md:=bK b) U U (λt q h=>⟨q,h⟩) (λt q _ _ _ h=>h) (PN U.hh c2 (Ext.refl G)) c3 c5 c4;refine Sem.loop g.N (iU.Xw (by rw[U.hh.len];exact e4) ?_);have bi:∀(k:Nat)(x:l_ S.pl)(u:AL)(E:aa),Ext G (eC S (bK b) L G x)->HS (S.pl++Du S.zs) G (eC S (bK b) L G x)->(eC S (bK b) L G x).length=G.length->Ref (bS S (bK b) L G x) (eC S (bK b) L G x) u E ->
      bg (λrec x=>tC g b (2 * q) (bS S (bK b) L G x) (eC S (bK b) L G x) λex T σ1=>match ex with
       |.normal=>match wI S (bK b) (bS S (bK b) L G x) (eC S (bK b) L G x) T σ1 with | some x'=>rec x' | none=>none
       |ex=>K ex T σ1) k x=some r->iU g.P b k g.n u E (kZ L G K r):=by
     intro k;induction k with
     |zero=>grind [bg]
     |succ k bk=>
      intro x u E x1 x2 x3 x4 h;have B:=a9 _ _ _ _ _ u E (show tC g b (2 * q) (bS S (bK b) L G x) (eC S (bK b) L G x) _=some r from h) x4;refine iU.succW (B.cT λex a6 a7 hP=>.inl ?_);obtain ⟨T,σ1,W,⟨pre,rfl⟩,X,N⟩:=hP;obtain ⟨ak,eA,_⟩:=jh S (bK b) L G x;cases ex with
      |normal=>
       dsimp only at N;split at N
       ·rename_i xv hx;obtain ⟨pre,σ1,a6,a7,w1,W,X,hx⟩:=qv x4 W X hx;obtain ⟨d1,d2,d3,d5,d4⟩:=iJ hx;have a3:=iY d1;obtain ⟨f1,f2,f3,a2,a0,f4,f5⟩:=iQ (md:=bK b) U W (λt q h=>by rw[eA,<-tD];exact qx h)
         (λt q m1 m2 m3 h=>jt (λy hy e=>(a3 y hy).elim (λz=>m1 (e▸z)) λ⟨b,i,l,lv,cv,z1,z2⟩=>let ⟨i,l,lv,cv,z3⟩:=pa x1 x3 z2;m3 b (e▸z1) i l lv cv z3) (uL x1 x3 m1 m2 m3 h)) (x2.trans (PN x4.hh d2 X)) d3 (by simp_all) d4
        exact ⟨a2,a0,by rw[x4.hh.len,x3];rw[x3] at w1;exact w1.trans f4,bk xv a2 a0 f1 f2 f3 f5 N⟩
       simp_all
      |exit i=>exact ⟨_,σ1,W,⟨pre++ak,by simp_all⟩,Ext.trans U.hh x1 X,N⟩
      |ret=>exact ⟨_,σ1,W,⟨pre++ak,by simp_all⟩,Ext.trans U.hh x1 X,N⟩
    exact bi g.N x0 u E e1 e2 e3 e5 h
theorem XN:∀(cs:List bT)(a:oC cs)(i t:Nat)(x:RV)(p:Nat),dt t (vA i (Vc cs a))=some (x,p)->∃d v,x=.v v/\lk t (gP i (nY cs a))=some d/\RT v d/\GV [] v:=by
 intro cs;induction cs with
 |nil=>grind [Vc,vA,dt]
 |cons c cs ih=>
  intro a i t x p h;simp only[Vc,vA,dt] at h;simp only[nY,gP,lk];split at h
  ·rename_i b;simp only[ab,aC] at h
   try rw[b]
   exact ⟨_,_,h.1.symm,rfl,c.zj a.1,xq c a.1⟩
  simp_all
theorem Nr:∀(cs:List bT)(a:oC cs),(nY cs a).length=cs.length:=by
 intro cs;induction cs with
 |nil=>intro a;rfl
 |cons c cs ih=>grind [nY]
theorem SE{al:TA}{σ:TH}{alD:AL}{σD:aa}(e:Ref al σ alD σD){q:Nat×Option (Option Nat)}{v:TV}(h:zy al σ q=some v):∃d,lr alD σD q=some d/\RT v d/\GV σ v:=by
 obtain ⟨t,o⟩:=q;cases o with
 |none=>
  simp only[zy] at h;split at h
  ·rename_i x f;simp only[ab] at h;subst h;obtain ⟨p,a⟩:=gG f;obtain ⟨d,g,i,j⟩:=e.rg t _ p a;exact ⟨d,g,i,j⟩
  simp_all
 |some m=>
  simp only[zy] at h;split at h
  ·rename_i b off sz f;obtain ⟨p,a⟩:=gG f;obtain ⟨d,g,i,_⟩:=e.rg t _ p a;have:=RT.c1 (by simp) i;subst this;split at h
   ·rename_i w u k;obtain ⟨ds,j,z,G,_⟩:=e.hh.cells k;split at h
    ·rename_i hs;obtain ⟨d,A,E⟩:=tS h z;refine ⟨d,?_,E,ma h λy l=>?_⟩
     ·simp only[lr,g,TC.er];rw[Nk j (sz:=sz) (by simp_all),aF];exact A
     ·rw[gZ] at l;obtain ⟨p,a,rfl⟩:=l;exact (e.hh.hg b w u k p a).1
    simp_all
   simp_all
  simp_all
theorem Ce{al:TA}{σ:TH}{alD:AL}{σD:aa}(f:Ref al σ alD σD):∀{e:List (Nat×Option (Option Nat))}{vs:List TV},Aa (zy al σ) e=some vs->∃ds,e.mapM (lr alD σD)=some ds/\dP vs ds/\∀v∈vs,GV σ v:=by
 intro e;induction e with
 |nil=>intro vs h;simp only[Aa,ab] at h;subst h;exact ⟨[],rfl,.nil,by simp⟩
 |cons q e ih=>
  intro vs h;simp only[Aa] at h;split at h
  ·rename_i a b g i;simp only[ab] at h;subst h;obtain ⟨d,l,j,o⟩:=SE f g;obtain ⟨ds,p,k,u⟩:=ih i;refine ⟨d::ds,?_,.cons j k,λv x=>?_⟩
   ·simp_all
   grind
  simp_all
theorem SU{σ:TH}{σD:aa}(H:RH σ σD):∀{cs:List bT}{vs:List TV}{ds:List D}{r:iH cs},si σ cs vs=some r->dP vs ds->(∀v∈vs,GV σ v)->∃es,ds.mapM (kK σD 0 100)=some es/\es.map wy=np cs r/\(∀d,ds=[d]->qQ σD 0 100 d=kK σD 0 100 d):=by
 intro cs;induction cs with
 |nil=>
  intro vs ds r h a g;cases a with
  |nil=>exact ⟨[],rfl,rfl,λd e=>by simp at e⟩
  |cons _ _=>grind [si]
 |cons c cs ih=>
  intro vs ds r h a g;cases a with
  |nil=>grind [si]
  |cons f a=>
   rename_i v d vs ds;cases cs with
   |nil=>
    cases a with
    |nil=>
     simp only[si] at h;obtain ⟨b,i,j,k⟩:=GA H (g v (by simp)) f h;refine ⟨[b],by simp_all,by grind [np],λl e=>?_⟩
     simp_all
    |cons _ _=>grind [si]
   |cons z cs=>
    cases a with
    |nil=>grind [si]
    |cons o a=>
     simp only[si] at h;split at h
     ·rename_i x y p q;simp only[ab] at h;subst h;obtain ⟨b,i,j,k⟩:=GA H (g v (by simp)) f p;obtain ⟨es,A,E,_⟩:=ih q (.cons o a) λv u=>g v (kE _ u);refine ⟨b::es,by simp_all,by grind [np],λl e=>by simp at e⟩
     simp_all
theorem Zl{P:Program}{S:ot}{B:bU}{l:yM}{H:List (Nat×Nat)}{J:List (Nat×JH)}{C:List (Nat×List CT)}{u:Nat}{g:FuncId}{fn:Func}{j:iw}{e out:List bT}{N:Nat}{a:oC e}{r:iH out}(cy:P.follows .mixedOrders=true)(hS:dB P S)
  (hg:P.funcs[g]? = some fn) (y:aH P g=true) (hc:e_ P fn true=some j) (hI:MT ⟨P,S,H,J,C,j.ntmps,N,(Gi P S N B l u).1,(Gi P S N B l u).2,l⟩) (hn:Nat.ble e.length j.ntmps=true) (h:tF P S B l H J C u j e out N a=some r):Pure P g (nY e a) (oA out r):=by
 refine pT hg y hc (by rw[Nr];simp_all) ?_;have R0:Ref (vA 0 (Vc e a)) [] (gP 0 (nY e a)) []:=⟨⟨rfl,λb blk h=>by simp at h,λb w cs h=>by simp at h⟩,λt x p h=>by obtain ⟨d,v,rfl,G,z,K⟩:=XN e a 0 t x p h;exact ⟨d,G,z,K⟩⟩
 refine (Pa ⟨P,S,H,J,C,j.ntmps,N,(Gi P S N B l u).1,(Gi P S N B l u).2,l⟩ cy hS hI j.body 1 _ _ _ r _ _ h R0).cT λx A f hP=>.inl ?_;obtain ⟨L,σ',G,_,_,z⟩:=hP;have fin:(match Aa (zy L σ') j.results with | some rs=>si σ' out rs | none=>none)=some r->∃E o,j.results.mapM (lr A f)=some E/\qQ f 0 100 (one E)=some o/\xW o (oA out r):=by
  intro z;split at z
  ·rename_i rs O;obtain ⟨ds,K,h4,h5⟩:=Ce G O;obtain ⟨U,q,h7,h8⟩:=SU G.hh z h4 h5;have W:U.length=ds.length:=(Eo q).1;have k:one ds=.aB ds->one (np out r)=.aB (np out r)->∃o,qQ f 0 100 (one ds)=some o/\xW o (oA out r):=λR X=>by
    rw[R];refine ⟨.aB U,TN q,xW.HM ?_⟩
    grind [JX,oA]
   have T:(np out r).length=ds.length:=by grind
   cases ds with
   |nil=>
    obtain ⟨o,R,X⟩:=k rfl (by have:np out r=[]:=QI T;rw[this];rfl)
    simp_all
   |cons d ds=>
    cases ds with
    |nil=>
     have e3:=h8 d rfl;rw[Lm] at q;cases Z:kK f 0 100 d with
     |none=>simp_all
     |some d'=>
      rw[Z] at q;simp only[List.mapM_nil] at q;cases q;refine ⟨[d],d',K,by rw[<-Z];exact e3,?_⟩;have e4:oA out r=wy d':=by unfold oA;rw[<-h7];rfl
      rw[e4];intro σ M Fz w v hv;exact yP hv
    |cons d2 ds=>
     obtain ⟨o,R,X⟩:=k rfl (by
      cases ho:np out r with
      |nil=>simp_all
      |cons o1 os=>
       cases os with
       |nil=>simp_all
       |cons o2 os=>rfl)
     simp_all
  simp_all
 cases x with
 |exit i=>grind
 |normal=>grind
 |ret=>grind
theorem dB.nil{P:Program}:dB P []:=λp i=>by grind
theorem dB.cons{P:Program}{g:Nat}{s:aY}{S:ot}(h:a_ P g s)(j:dB P S)(o:Nat.blt g 1048576=true:=by rfl):dB P ((g,s)::S):=by
 intro p i;rcases dO.1 i with rfl | i
 ·exact ⟨λ_=>h,λe=>by rw[o] at e;cases e⟩
 ·exact j p i
theorem dB.it{P:Program}{g:Nat}{s:aY}{S:ot}(h:OX P g s)(j:dB P S):dB P ((g+1048576,s)::S):=by
 intro p i;rcases dO.1 i with rfl | i
 ·exact ⟨λe=>by have:=oS.mp e;dsimp only at this;omega,λ_=>by simpa using h⟩
 ·exact j p i
end
end Go.Abs
end
section
namespace Go.Abs
noncomputable section
variable[Gl][Y:Ty]
section
variable{m:Nat}{σ1 am:aa}{ρ:Nat->Nat}{F:Nat->Prop}
theorem lB{P:Program}{g:FuncId}{fn:Func}{j:iw}{fz:Bool}{ds:List D}{r:D}{σ:aa}(hg:P.funcs[g]? = some fn)(u:e_ P fn fz=some j)(y:ds.length<=j.ntmps)
  (h:Sem P j.body j.ntmps (gP 0 ds) σ λx al σ1=>(x=.normal∨x=.ret)/\∃a ρ F,j.results.mapM (lr al σ1)=some a/\IS σ.length σ1 am ρ F/\(∀b,F b->σ.length<=b)/\b_ σ1 am ρ F (one a) r):Ok P g ds σ r am:=by
 unfold e_ at u;split at u
 ·rename_i c hb;split at u
  ·rename_i ac rs h1 h2;simp only[ab] at u;subst u;dsimp only at h y;intro M Fz w i R hs G;refine jJ hg hb ?_;have A0:dq fn.ntmps σ M Fz w (gP 0 ds) (i++Array.replicate (fn.ntmps-i.size) undef):=by
    refine ⟨by simp_all,λt d K=>?_⟩;obtain ⟨_,Z⟩:=zb ds 0 t d K;rw[Nat.sub_zero] at Z;have L:t<i.size:=by grind
    exact ⟨i[t],by grind,G t d _ Z (nE L)⟩
   refine Fw (h c h1 M Fz w { tmps:=i++Array.replicate (fn.ntmps-i.size) undef,defers:=[] } _ R A0 λx e σ' a' w' M' Fz' hQ hd R' E EV hl=>?_);obtain ⟨hx,a,ρ,F,hm,hN,hF,N⟩:=hQ;have O:rs.mapM (EE (sf fn.ntmps e) σ')=some a:=by
    have ad:∀(l:List (Nat×Option (Option Nat))) a,l.mapM (lr e σ')=some a->l.mapM (EE (sf fn.ntmps e) σ')=some a:=by
     intro l;induction l with
     |nil=>simp_all
     |cons p l ih=>
      intro a h;rw[Lm] at h ⊢;cases z:lr e σ' p with
      |none=>simp_all
      |some d=>
       rw[z] at h;have:EE (sf fn.ntmps e) σ' p=some d:=by
        obtain ⟨t,o⟩:=p;cases o with
        |none=>exact E.bV.2.2 t d z
        |some k=>
         simp only[lr] at z;split at z
         ·rename_i b off sz S;simp only[EE,E.bV.2.2 t _ S];exact z
         simp_all
       rw[this];cases hr:l.mapM (lr e σ') with
       |none=>simp_all
       |some q=>simp_all
    simp_all
   have T:sX x=.normal∨sX x=.ret:=by rcases hx with rfl | rfl <;> simp[sX]
   refine ⟨T,Mk.end hd R' EV λw'' f A mv=>?_⟩;have U:dq fn.ntmps σ' M' Fz' w'' e a'.tmps:=⟨E.1,λt d K=>by obtain ⟨v,q1,q2⟩:=E.2 t d K;exact ⟨v,q1,mv d v q2⟩⟩
   obtain ⟨v,W,X⟩:=gp (P:=P) f U.bV.1 h2 O;exact ⟨v,W,v,_,_,rfl,hN.rel f,N M' Fz' w'' v f X,hN.Rj (bQ _) hF R f A⟩
  simp_all
 simp_all
end
end
end Go.Abs
end
section
namespace Go.Abs
noncomputable section
variable[Gl][Y:Ty]
theorem yp{c:It}{d:g_}{a:c.dn}(h:jy c d=some a):d=⟨c,a⟩:=by
 unfold jy at h;split at h
 ·rename_i e _;simp only[ab] at h;obtain ⟨it,v⟩:=d
  grind
 simp_all
theorem Gc(c:It)(a:c.dn):jy c ⟨c,a⟩=some a:=by
 unfold jy;split
 ·rfl
 grind
theorem OH:∀{cs:List It}{ds:List g_}{x:dm cs},pI cs ds=some x->ff cs x=ds:=by
 intro cs;induction cs with
 |nil=>
  intro ds x h;cases ds with
  |nil=>rfl
  |cons d ds=>grind [pI]
 |cons c cs ih=>
  intro ds x h;cases cs with
  |nil=>
   cases ds with
   |nil=>grind [pI]
   |cons d ds=>
    cases ds with
    |nil=>grind [pI,ff,yp]
    |cons _ _=>grind [pI]
  |cons a cs=>
   cases ds with
   |nil=>grind [pI]
   |cons d ds=>grind [pI,ff,yp]
structure SR (σs am:TH):Prop where
 len:am.length=σs.length
 row:∀(b:Nat) i (l:List (TT i)) lv cv,σs[b]? = some (.row i l lv cv)->am[b]? = some (.row i l lv cv)
def GS(σs:TH):TC->Prop
 |.own i b v n=>∃(l:List (TT i))(a:Nat),σs[b]? = some (.row i l v a)/\n=l.length
 |.d x=>x.low σs.length=true
 |.any=>False
 |.op ..=>False
 |.ap ..=>False
 |.os ..=>False
 |.zq ..=>False
 |_=>True
theorem GS.gc{σs am:TH}(h:SR σs am){x:TC}(g:GS σs x):GC am x:=by
 cases x with
 |own i b v n=>
  obtain ⟨l,o,u,A⟩:=g;refine ⟨_,h.row b i l v o u,λj E G z e=>?_⟩
  grind
 |d x=>show D.low _ _=true;rw[h.len];exact g
 |any=>exact g.elim
 |op=>exact g.elim
 |ap=>exact g.elim
 |os=>exact g.elim
 |zq=>exact g.elim
 |_=>trivial
theorem C_(σs:TH)(c:CC)(a:c.dn):GS σs (oq c a):=by cases c <;> first | exact True.intro | rfl
theorem Ia{σs:TH}{p:CP}{ds r:List g_}{y:TC}(h:uS σs p ds=some (y,r)):GS σs y:=by
 unfold uS at h;split at h
 ·grind [C_]
 ·split at h
  ·simp only[ab,aC] at h;obtain ⟨rfl,_⟩:=h;trivial
  simp_all
 ·split at h
  ·rename_i i l d b a;simp only[ab,aC] at h;obtain ⟨rfl,_⟩:=h;exact ⟨l,b,a,rfl⟩
  simp_all
 ·split at h
  ·rename_i a;simp only[ab,aC] at h;obtain ⟨rfl,_⟩:=h;show D.low _ _=true;simp only[D.low,aM];simp_all
  simp_all
 ·split at h
  ·rename_i a;simp only[ab,aC] at h;obtain ⟨rfl,_⟩:=h;show D.low _ _=true;simp only[D.low,aM];simp_all
  simp_all
 ·split at h
  ·rename_i a;simp only[ab,aC] at h;obtain ⟨rfl,_⟩:=h;show D.low _ _=true;simp only[D.low,D.low.bM,UZ,EP,aM];simp_all
  simp_all
 ·split at h
  ·rename_i a;simp only[ab,aC] at h;obtain ⟨rfl,_⟩:=h;exact D.cY (JG _) a
  simp_all
 simp_all
theorem Ip{σs:TH}:∀{ps:List CP}{ds r:List g_}{a:List TC},uz σs ps ds=some (a,r)->∀y∈a,GS σs y:=by
 intro ps;induction ps with
 |nil=>grind [uz]
 |cons p ps ih=>grind [uz,Ia]
theorem RH.mk'{σ:TH}(i:∀(b:Nat) w cs,σ[b]? = some (.cells w cs)->∀p∈cs,GC σ p.2/\p.1<=w):RH σ (σ.map TB.er):=⟨by simp,λb blk j=>⟨blk.er,by simp_all,rfl⟩,i⟩
theorem RH.Xt{σ:TH}{σD:aa}(H:RH σ σD):σD=σ.map TB.er:=by
 apply L_;intro b;rw[gT];cases i:σ[b]? with
 |none=>grind [RH.len]
 |some blk=>obtain ⟨u,j,o⟩:=H.hp b blk i;rw[j,o];rfl
structure sY (ps:List PC) (σ fG:TH):Prop where
 ext:Ext σ fG
 len:fG.length=σ.length
 cells:∀(b:Nat) w cs,σ[b]? = some (.cells w cs)↔fG[b]? = some (.cells w cs)
 out:∀b,b∉ps.map PC.blk->fG[b]? = σ[b]?
 row:ps.any PC.rs=false->∀(b:Nat) i (l:List (TT i)) lv cv,σ[b]? = some (.row i l lv cv)->fG[b]? = some (.row i l lv cv)
 rh:∃σD',RH fG σD'
theorem eK:∀{ps:List PC}{σ o:TH}{σD:aa}{ds r:List g_},br σ ps ds=some (o,r)->RH σ σD->sY ps σ o:=by
 intro ps;induction ps with
 |nil=>intro σ o σD ds r h H;simp only[br,ab,aC] at h;obtain ⟨rfl,_⟩:=h;exact ⟨Ext.refl σ,rfl,λb w f=>Iff.rfl,λb _=>rfl,λ_ b i l q u h=>h,⟨σD,H⟩⟩
 |cons p ps ih=>
  intro σ o σD ds r h H;have one:∀(b:Nat)(blk a:TB)(y:List g_),σ[b]? = some blk->BE blk a->(∀w f,blk≠.cells w f)->(∀w f,a≠.cells w f)->p.blk=b->(p.rs=false->∀i (l:List (TT i)) q u,blk≠.row i l q u)->br (σ.set b a) ps y=some (o,r)->sY (p::ps) σ o:=by
   intro b blk a y E G U z K W h;have L:RH (σ.set b a) (σD.set b a.er):=H.set E G rfl (λw f e=>absurd e (z w f));have e:=ih h L;refine ⟨Ext.trans H (Ext.set E G) e.ext,by rw[e.len];simp,λx w f=>?_,λx g=>?_,λk x i l q u X=>?_,e.rh⟩
   ·rw[<-e.cells]
    grind
   ·simp only[mb,dO,not_or,K] at g;rw[e.out x g.2,Mt g.1]
   ·simp only[List.any_cons,Bool.or_eq_false_iff] at k;refine e.row k.2 x i l q u ?_
    grind
  cases p with
  |h b j p=>simp only[br] at h;have e:=ih h H;exact ⟨e.ext,e.len,e.cells,λx g=>e.out x (λN=>g (kE _ N)),λk=>e.row (by simp_all),e.rh⟩
  |w b i=>
   cases ds with
   |nil=>grind [br]
   |cons d ds=>
    simp only[br] at h;split at h
    ·rename_i l j O q u R A;split at h
     ·rename_i S;have:=bP S;subst this;exact one b _ _ ds A ⟨l,_,_,rfl,by omega,by omega,λe=>by omega,λe=>by omega⟩ (λw f e=>by simp at e) (λw f e=>by simp at e) rfl (λe=>by grind [PC.rs]) h
     simp_all
    simp_all
  |m b j st=>
   cases ds with
   |nil=>grind [br]
   |cons d ds=>
    simp only[br] at h;split at h
    ·rename_i l Z T O v R A;exact one b _ _ ds A ⟨_,_,_,_,rfl,by omega,λe=>by omega⟩ (λw f e=>by simp at e) (λw f e=>by simp at e) rfl (λ_ i l q u e=>by simp at e) h
    simp_all
theorem xN:∀{a:List NB}{ds r:List g_}{l:TH},cK a ds=some (l,r)->l.length=a.length:=by
 intro a;induction a with
 |nil=>grind [cK]
 |cons nb a ih=>
  intro ds r l h;cases nb with
  |cells b=>grind [cK]
  |row i=>
   cases ds with
   |nil=>grind [cK]
   |cons d ds=>grind [cK]
  |mp j st=>
   cases ds with
   |nil=>grind [cK]
   |cons d ds=>grind [cK]
theorem uB{σs:TH}:∀{a:List NB}{e l:TH}{ds:List g_},dv σs a e ds=some l->l.length=a.length/\(∀(k:Nat) i (r:List (TT i)) f g,e[k]? = some (.row i r f g)->k<a.length->(∀ps,a[k]?≠some (.cells ps))->l[k]? = some (.row i r f g)) /\
  (∀(k:Nat) w cs,l[k]? = some (.cells w cs)->(∃w' d,e[k]? = some (.cells w' d)/\cs=d/\w=w')∨∀p∈cs,GS σs p.2/\p.1<=w):=by
 intro a;induction a with
 |nil=>intro e l ds h;simp only[dv,ab] at h;simp_all
 |cons nb a ih=>
  intro e l ds h;cases e with
  |nil=>grind [dv]
  |cons b e=>
   have A:∀o,dv σs a e ds=some o->l=b::o->l.length=(nb::a).length/\(∀(k:Nat) i (r:List (TT i)) f g,(b::e)[k]? = some (.row i r f g)->k<(nb::a).length->(∀ps,(nb::a)[k]?≠some (.cells ps))->l[k]? = some (.row i r f g)) /\
     (∀(k:Nat) w cs,l[k]? = some (.cells w cs)->(∃w' d,(b::e)[k]? = some (.cells w' d)/\cs=d/\w=w')∨∀p∈cs,GS σs p.2/\p.1<=w):=by
    grind
   cases nb with
   |row i=>
    simp only[dv] at h
    grind
   |mp j st=>
    simp only[dv] at h
    grind
   |cells ps=>
    simp only[dv] at h;split at h
    ·rename_i E r u;split at h
     ·rename_i o v;simp only[ab] at h;subst h;obtain ⟨y,G,K⟩:=ih v;refine ⟨by simp[y],λk i r f g hk L N=>?_,λk w cs hk=>?_⟩
      ·grind
      ·cases k with
       |zero=>simp only[List.getElem?_cons_zero,ab,TB.cells.injEq] at hk;obtain ⟨rfl,rfl⟩:=hk;refine .inr λp q=>?_;rw[gZ] at q;obtain ⟨x,z,rfl⟩:=q;exact ⟨Ip u x z,bQ _⟩
       |succ k=>grind
     simp_all
    simp_all
theorem sU:∀{a:List NB}{ds r:List g_}{l:TH},cK a ds=some (l,r)->∀(k:Nat),(∀w cs,l[k]? = some (.cells w cs)->cs=[])/\(∀ps,a[k]? = some (.cells ps)->l[k]? = some (.cells 0 [])):=by
 intro a;induction a with
 |nil=>grind [cK]
 |cons nb a ih=>
  intro ds r l h k;cases nb with
  |cells ps=>
   simp only[cK] at h
   grind
  |row i=>
   cases ds with
   |nil=>grind [cK]
   |cons d ds=>grind [cK]
  |mp j st=>
   cases ds with
   |nil=>grind [cK]
   |cons d ds=>grind [cK]
structure Io (σs:TH) (ps:List PC) (σ σ':TH):Prop where
 len:σ'.length=σ.length
 same:∀(b:Nat) blk,σ[b]? = some blk->(∀w cs,blk≠.cells w cs)->σ'[b]? = some blk
 Vg:∀(b:Nat) w cs,σ[b]? = some (.cells w cs)->∃w' cs',σ'[b]? = some (.cells w' cs')/\w<=w'/\cs'.length=cs.length/\∀(j:Nat) v1 x1,cs'[j]? = some (v1,x1)->cs[j]? = some (v1,x1)∨(w<v1/\v1<=w'/\GS σs x1)
 out:∀b,b∉ps.map PC.blk->σ'[b]? = σ[b]?
theorem iI{σs:TH}:∀{ps:List PC}{σ σ':TH}{ds r:List g_},dV σs ps σ ds=some (σ',r)->Io σs ps σ σ':=by
 intro ps;induction ps with
 |nil=>intro σ σ' ds r h;simp only[dV,ab,aC] at h;obtain ⟨rfl,_⟩:=h;exact ⟨rfl,λb blk h _=>h,λb w l h=>⟨w,l,h,bQ _,rfl,λj A E e=>.inl e⟩,λb _=>rfl⟩
 |cons p ps ih=>
  intro σ σ' ds r h;have skip:dV σs ps σ ds=some (σ',r)->Io σs (p::ps) σ σ':=λh=>by have e:=ih h;exact ⟨e.len,e.same,e.Vg,λb a=>e.out b λq=>a (kE _ q)⟩
  cases p with
  |w b i=>grind [dV]
  |m b j st=>grind [dV]
  |h b j p=>
   simp only[dV] at h;split at h
   ·rename_i x G w l u o;have g:=Ia u;have e:=ih h;refine ⟨by rw[e.len];simp,λd blk a v=>?_,λd y f a=>?_,λd a=>?_⟩
    ·refine e.same d blk ?_ v
     grind
    ·by_cases k:d=b
     ·subst k;rw[o] at a;simp only[ab,TB.cells.injEq] at a;obtain ⟨rfl,rfl⟩:=a;obtain ⟨w2,z,K,L,N,O⟩:=e.Vg d _ _ (Ah o)
      grind
     ·exact e.Vg d y f (by grind)
    ·simp only[mb,dO,not_or,PC.blk] at a;rw[e.out d a.2,Mt a.1]
   simp_all
def eD:TV->D
 |.c x=>x.er
 |.agg a=>.agg (a.map TC.er)
 |.aB _=>.aB []
def nT:TV->Prop
 |.aB _=>False
 |_=>True
def X_(σs:TH):TV->Prop
 |.c x=>GS σs x
 |.agg a=>∀x∈a,GS σs x
 |.aB _=>False
theorem GS.fp(σs:TH)(i:Nat)(a:TT i):GS σs (.fp i a 0):=True.intro
theorem Xb(σs:TH)(i:Nat)(a:TT i):∀y∈exp i a,GS σs y:=by
 have d:∀(b:List CC)(x:aB b),∀y∈qi b x,GS σs y:=by
  intro b;induction b with
  |nil=>grind [qi]
  |cons c b ih=>grind [qi,C_]
 exact d _ _
theorem Xf{σs:TH}{p:RO}{ds r:List g_}{v:TV}(h:wo σs p ds=some (v,r)):X_ σs v:=by
 unfold wo at h;split at h
 ·split at h
  ·simp only[ab,aC] at h;obtain ⟨rfl,_⟩:=h;exact C_ σs _ _
  simp_all
 ·split at h
  ·simp only[ab,aC] at h;obtain ⟨rfl,_⟩:=h;exact Xb σs _ _
  simp_all
 ·split at h
  ·simp only[ab,aC] at h;obtain ⟨rfl,_⟩:=h;exact True.intro
  simp_all
 ·split at h
  ·rename_i x b a;simp only[ab,aC] at h;obtain ⟨rfl,_⟩:=h;exact Ia a
  simp_all
 ·split at h
  ·rename_i d b a;simp only[ab,aC] at h;obtain ⟨rfl,_⟩:=h;exact Ip a
  simp_all
 simp_all
theorem BC{σs:TH}:∀{ps:List RO}{ds r:List g_}{vs:List TV},mV σs ps ds=some (vs,r)->∀v∈vs,X_ σs v:=by
 intro ps;induction ps with
 |nil=>grind [mV]
 |cons p ps ih=>grind [mV,Xf]
theorem X_.gv{σs am:TH}(h:SR σs am){v:TV}(g:X_ σs v):GV am v:=by
 cases v with
 |c x=>exact GS.gc h g
 |agg i=>exact λx j=>GS.gc h (g x j)
 |aB i=>exact g.elim
theorem X_.nt{σs:TH}{v:TV}(g:X_ σs v):nT v:=by
 cases v with
 |aB i=>exact g.elim
 |_=>trivial
theorem RT.eD{v:TV}(h:nT v):RT v (eD v):=by
 cases v with
 |c x=>exact .inr rfl
 |agg i=>exact ⟨_,rfl,ar.er i⟩
 |aB i=>exact h.elim
theorem Ik{vs:List TV}(h:∀v∈vs,nT v):RT (tW vs) (one (vs.map Go.Abs.eD)):=by
 have aB:∀(vs:List TV),(∀v∈vs,nT v)->ar RE (vs.map Yy) (vs.map Go.Abs.eD):=by
  intro vs;induction vs with
  |nil=>intro _;exact .nil
  |cons v vs ih=>
   intro h;refine .cons ?_ (ih λv b=>h v (kE _ b));have:=h v (li ..);cases v with
   |c x=>exact ⟨x,rfl,.inr rfl⟩
   |agg a=>exact ⟨_,rfl,ar.er a⟩
   |aB a=>exact this.elim
 cases vs with
 |nil=>exact ⟨[],rfl,.nil⟩
 |cons v vs=>
  cases vs with
  |nil=>exact RT.eD (h v (li ..))
  |cons d vs=>exact ⟨_,rfl,aB _ h⟩
theorem JI{σ:TH}{vs:List TV}(h:∀v∈vs,GV σ v):GV σ (tW vs):=by
 have aB:∀(vs:List TV),(∀v∈vs,GV σ v)->GV σ (.aB (vs.map Yy)):=by
  intro vs h p b x a;rw[gZ] at b;obtain ⟨v,d,rfl⟩:=b;have:=h v d;cases v with
  |c y=>simp only[Yy,dO,FG,EG] at a;subst a;exact this
  |agg e=>exact this x a
  |aB e=>grind [Yy]
 cases vs with
 |nil=>exact aB _ h
 |cons v vs=>
  cases vs with
  |nil=>exact h v (li ..)
  |cons f vs=>exact aB _ h
theorem FA:∀{ps:List PC}{σ f:TH}{ds r:List g_},br σ ps ds=some (f,r)->∀p∈ps,(∃b i,p=.w b i)∨(∃b j st,p=.m b j st)->p.blk<σ.length:=by
 intro ps;induction ps with
 |nil=>simp_all
 |cons p ps ih=>
  intro σ f ds r h q a u;cases p with
  |h b j c=>grind [br]
  |w b i=>
   cases ds with
   |nil=>grind [br]
   |cons d ds=>
    simp only[br] at h;split at h
    ·rename_i l j g x y k e;split at h
     ·rcases dO.1 a with rfl | a
      ·exact (dT.1 e).1
      grind
     simp_all
    simp_all
  |m b j st=>
   cases ds with
   |nil=>grind [br]
   |cons d ds=>
    simp only[br] at h;split at h
    ·rename_i l z o g v k e;rcases dO.1 a with rfl | a
     ·exact (dT.1 e).1
     grind
    simp_all
theorem QS{σs:TH}:∀{ps:List PC}{σ σ':TH}{ds r:List g_},dV σs ps σ ds=some (σ',r)->∀b j p,PC.h b j p∈ps->b<σ.length:=by
 intro ps;induction ps with
 |nil=>simp_all
 |cons q ps ih=>
  intro σ σ' ds r h b j p e;cases q with
  |w a i=>grind [dV]
  |m a d st=>grind [dV]
  |h a d f=>grind [dV]
structure Laid (ct:CT) (σ:TH) (ds:List g_) (rv:List TV) (F:TH) where
 fG:TH
 d1:List g_
 nb:TH
 d2:List g_
 d3:List g_
 am:TH
 d4:List g_
 l:TH
 h1:br σ ct.pl ds=some (fG,d1)
 h2:cK ct.nb d1=some (nb,d2)
 h3:mV (fG++nb) ct.out d2=some (rv,d3)
 h4:dV (fG++nb) ct.pl fG d3=some (am,d4)
 h5:dv (fG++nb) ct.nb nb d4=some l
 e:F=am++l
theorem iV{ct:CT}{σ F:TH}{x:dm ct.items}{rv:List TV}(h:pW ct σ x=some (rv,F)):Nonempty (Laid ct σ (ff ct.items x) rv F):=by
 unfold pW at h;split at h
 ·simp at h
 ·rename_i a b d;split at h
  ·simp at h
  ·rename_i nb e f;split at h
   ·simp at h
   ·rename_i p g i;split at h
    ·simp at h
    ·rename_i am j k;split at h
     ·rename_i l o;simp only[ab,aC] at h;obtain ⟨rfl,rfl⟩:=h;exact ⟨⟨a,b,nb,e,g,am,j,l,d,f,i,k,o,rfl⟩⟩
     simp_all
section
variable{ct:CT}{σ F:TH}{σD:aa}{ds:List g_}{rv:List TV}
theorem Laid.fl(L:Laid ct σ ds rv F):F.length=L.am.length+L.l.length:=by have:=Dj List.length L.e;simp_all
theorem Laid.fa(L:Laid ct σ ds rv F)(b:Nat):F[b]? = (L.am++L.l)[b]?:=Dj (λl=>l[b]?) L.e
theorem Laid.sr(L:Laid ct σ ds rv F):SR (L.fG++L.nb) F:=by
 have C:=iI L.h4;obtain ⟨x,z,K⟩:=uB L.h5;refine ⟨by rw[L.fl,vU,C.len,x,xN L.h2],λb i l A E j=>?_⟩;rw[L.fa];rcases pY b L.fG.length with o | u
 ·rw[CU o] at j;rw[CU (by grind [Io.len])];exact C.same b _ j (λw O e=>by simp at e)
 ·rw[Jo u] at j;rw[Jo (by grind [Io.len]),C.len];refine z _ i l A E j (by rw[<-xN L.h2];grind) λG e=>?_;rw[(sU L.h2 _).2 G e] at j
  grind
theorem Laid.lt(L:Laid ct σ ds rv F)(H:RH σ σD){b:Nat}(h:b<σ.length):F[b]? = L.am[b]?:=by have C:=iI L.h4;have i:=eK L.h1 H;rw[L.fa,CU (by rw[C.len,i.len];exact h)]
theorem Laid.ext(L:Laid ct σ ds rv F)(H:RH σ σD):Ext σ F:=by
 have C:=iI L.h4;have E:=eK L.h1 H;obtain ⟨G,X⟩:=E.rh;refine Ext.trans H E.ext λb blk K=>?_;have u:b<σ.length:=by grind [sY.len]
 rw[L.lt H u];have other:(∀w z,blk≠.cells w z)->∃o,L.am[b]? = some o/\BE blk o:=λO=>⟨blk,C.same b blk K O,BE.refl blk⟩;cases blk with
 |cells w z=>
  obtain ⟨w',A,R,U,W,Z⟩:=C.Vg b w z K;refine ⟨_,R,w',A,rfl,U,W,λj v x v1 x1 h h1=>?_⟩
  grind
 |row i l lv cv=>simp_all
 |mp j st l v=>simp_all
theorem Laid.rh(L:Laid ct σ ds rv F)(H:RH σ σD):RH F (F.map TB.er):=by
 have C:=iI L.h4;have X:=eK L.h1 H;have S:=L.sr;obtain ⟨Z,Hr⟩:=X.rh;obtain ⟨n1,n2,n3⟩:=uB L.h5;have er:Ext L.fG F:=λb blk u=>by
  have E:b<σ.length:=by grind [sY.len]
  rw[L.lt H E];have other:(∀w z,blk≠.cells w z)->∃A,L.am[b]? = some A/\BE blk A:=λhn=>⟨blk,C.same b blk u hn,BE.refl blk⟩;cases blk with
  |cells w z=>
   obtain ⟨w',G,O,U,e3,e4⟩:=C.Vg b w z u;refine ⟨_,O,w',G,rfl,U,e3,λj v x v1 x1 h W=>?_⟩
   grind
  |row i l lv cv=>simp_all
  |mp j st l v=>simp_all
 refine RH.mk' λb w z u p hp=>?_;rcases pY b σ.length with E | af
 ·rw[L.lt H E] at u;have K:=cE (show b<L.fG.length by grind [sY.len]);cases o:L.fG[b]'(by grind) with
  |row i l lv cv=>rw[o] at K;rw[C.same b _ K (λw z e=>by simp at e)] at u;grind
  |mp j st l v=>rw[o] at K;rw[C.same b _ K (λw z e=>by simp at e)] at u;grind
  |cells w0 R=>
   rw[o] at K;obtain ⟨w',G,O,U,e3,e4⟩:=C.Vg b w0 R K;rw[u] at O;simp only[ab,TB.cells.injEq] at O;obtain ⟨rfl,rfl⟩:=O;obtain ⟨j,hj⟩:=Yw hp;obtain ⟨v1,x1⟩:=p;rcases e4 j v1 x1 hj with h5 | ⟨h5,h6,h7⟩
   ·obtain ⟨h8,h9⟩:=Hr.hg b w0 R K _ (sT h5);exact ⟨h8.mono er,jI h9 U⟩
   grind [GS.gc]
 ·have ad:L.am.length=σ.length:=by rw[C.len,X.len]
  rw[L.fa,Jo (by omega)] at u;rcases n3 _ w z u with ⟨w',G,W,rfl,rfl⟩ | W
  ·rw[(sU L.h2 _).1 w z W] at hp;grind
  grind [GS.gc]
theorem Laid.out(L:Laid ct σ ds rv F)(H:RH σ σD){b:Nat}(j:b<σ.length)(i:b∉ct.pl.map PC.blk):F[b]? = σ[b]?:=by rw[L.lt H j,(iI L.h4).out b i,(eK L.h1 H).out b i]
theorem Laid.szs(L:Laid ct σ ds rv F)(H:RH σ σD)(K:ct.pl.any PC.rs=false){b:Nat}(z:b<σ.length):∃x y,σ[b]? = some x/\F[b]? = some y/\x.er.sz=y.er.sz:=by
 have C:=iI L.h4;have E:=eK L.h1 H;have u:=cE z;cases o:σ[b] with
 |cells w A=>rw[o] at u;obtain ⟨w',O,R,e2,e3,e4⟩:=C.Vg b w A ((E.cells b w A).1 u);exact ⟨_,_,u,by rw[L.lt H z];exact R,by grind [TB.er,Ob.sz]⟩
 |row i l U W=>rw[o] at u;exact ⟨_,_,u,by rw[L.lt H z];exact C.same b _ (E.row K b i l U W u) (λw A e=>by simp at e),rfl⟩
 |mp j st l v=>rw[o] at u;obtain ⟨G,X,j1,Z,l1,v1,rfl,_⟩:=L.ext H b _ u;exact ⟨_,_,u,X,rfl⟩
theorem Laid.all(L:Laid ct σ ds rv F)(H:RH σ σD):RH F (F.map TB.er)/\RT (tW rv) (one (rv.map eD))/\GV F (tW rv)/\Ext σ F/\(∀b,b<σD.length->b∉ct.pl.map PC.blk->(F.map TB.er)[b]? = σD[b]?)/\(ct.pl.any PC.rs=false->ie σD (F.map TB.er) (ct.pl.map PC.blk)=true):=by
 have g:=BC L.h3;refine ⟨L.rh H,Ik λv o=>(g v o).nt,JI λv o=>(g v o).gv L.sr,L.ext H,λb u E=>?_,λG=>?_⟩
 ·rw[H.Xt,gT,gT,L.out H (by grind [RH.len]) E]
 ·rw[H.Xt,ie,eG];intro b u;rw[gZ] at u;obtain ⟨p,z,rfl⟩:=u;have A:p.blk<σ.length:=by
   cases p with
   |w b i=>exact FA L.h1 _ z (.inl ⟨b,i,rfl⟩)
   |m b j st=>exact FA L.h1 _ z (.inr ⟨b,j,st,rfl⟩)
   |h b j c=>have:=QS L.h4 b j c z;rwa [(eK L.h1 H).len] at this
  obtain ⟨x,y,K,O,R⟩:=L.szs H G A
  simp_all
end
end
end Go.Abs
end
section
namespace Go.Abs
noncomputable section
variable[Gl][Y:Ty]
structure Mo (s s':MS):Prop where
 Dq:∀b o,kT b s.ρ=some o->kT b s'.ρ=some o
 fz:∀b,b∈s.fz->b∈s'.fz
theorem Mo.refl(s:MS):Mo s s:=⟨λ_ _ h=>h,λ_ h=>h⟩
theorem Mo.trans{a b c:MS}(h:Mo a b)(i:Mo b c):Mo a c:=⟨λx o e=>i.Dq x o (h.Dq x o e),λx e=>i.fz x (h.fz x e)⟩
structure MI (m:Nat) (σ1:TH) (s:MS):Prop where
 ge:∀p∈s.ρ,m<=p.1/\m<=p.2
 fz:∀b∈s.fz,∃(i:Nat)(l:List (TT i))(lv cv:Nat),σ1[b]? = some (.row i l lv cv)
def Bd(m:Nat)(s:MS)(b a:Nat):Prop:=(b<m/\a=b)∨(m<=b/\kT b s.ρ=some a)
theorem Bd.mono{m:Nat}{s s':MS}{b i:Nat}(h:Mo s s'):Bd m s b i->Bd m s' b i
 |.inl a=>.inl a
 |.inr a=>.inr ⟨a.1,h.Dq _ _ a.2⟩
def CM(m:Nat)(σ1 σs:TH)(s:MS)(x y:TC):Prop:=
 (xW x.er y.er/\y.er.low 0=true/\(x=.d (.c (.lit (.slice none 0 0)))∨x.er=y.er)) ∨
 (∃(i b v:Nat)(l:List (TT i))(d:Nat),x=.own i b v l.length/\b∈s.fz/\σ1[b]? = some (.row i l v d)/\y.er=.c (.bG false (l.map (enc i)))) ∨
 (∃(i b a v:Nat)(g:List (TT i))(e j h:Nat)(l:List (TT j))(d:Nat),x=.own i a v g.length/\Bd m s b a/\σ1[a]? = some (.row i g v e)/\y=.own j b h l.length/\σs[b]? = some (.row j l h d)) ∨
 (∃b a off sz,x=.d (.ptr a off sz)/\Bd m s b a/\y=.d (.ptr b off sz)/\b<σs.length) ∨
 (∃b a,x=.d (.mp a)/\Bd m s b a/\y=.d (.mp b)/\b<σs.length) ∨
 (∃f b a sz,x=.d (.fn (.func f) [] [.ptr a 0 sz])/\Bd m s b a/\y=.d (.fn (.func f) [] [.ptr b 0 sz])/\b<σs.length)
variable{m:Nat}{σ σ1 σs:TH}{s s':MS}
theorem CM.mono(h:Mo s s'){x y:TC}(c:CM m σ1 σs s x y):CM m σ1 σs s' x y:=by
 rcases c with c | ⟨i,b,v,l,G,o,u,z,A⟩ | ⟨i,b,E,v,L,K,j,O,l,G,o,u,z,A,R⟩ | ⟨b,E,off,sz,o,u,z,A⟩ | ⟨b,E,o,u,z,A⟩ | ⟨f,b,E,sz,o,u,z,A⟩
 ·exact .inl c
 ·exact .inr (.inl ⟨i,b,v,l,G,o,h.fz _ u,z,A⟩)
 ·exact .inr (.inr (.inl ⟨i,b,E,v,L,K,j,O,l,G,o,u.mono h,z,A,R⟩))
 ·exact .inr (.inr (.inr (.inl ⟨b,E,off,sz,o,u.mono h,z,A⟩)))
 ·exact .inr (.inr (.inr (.inr (.inl ⟨b,E,o,u.mono h,z,A⟩))))
 ·exact .inr (.inr (.inr (.inr (.inr ⟨f,b,E,sz,o,u.mono h,z,A⟩))))
theorem ar.mono{α i:Type}{R j:α->i->Prop}(h:∀a b,R a b->j a b){l:List α}{o:List i}(a:ar R l o):ar j l o:=by
 induction a with
 |nil=>exact .nil
 |cons x _ ih=>exact .cons (h _ _ x) ih
theorem CM.data{c:CC}{x:TC}{a:c.dn}(h:xj c x=some a):CM m σ1 σs s x (oq c a):=by have i:=lw h;refine .inl ⟨?_,by rw[iE];rfl,by grind [iE,Hd]⟩;rw[iE,<-i.2];intro σ M Fz w v j;exact Cw j
theorem Gy{c:CC}{x:TC}{a:c.dn}(h:xj c (wu σ1 x)=some a)(g:GC σ1 x):(∀b∈fM [x],∃(i:Nat)(l:List (TT i))(d e:Nat),σ1[b]? = some (.row i l d e))/\∀m σs s,(∀b∈fM [x],b∈s.fz)->CM m σ1 σs s x (oq c a):=by
 cases x with
 |own i b v n=>
  simp only[wu] at h;split at h
  ·rename_i j l d e o;split at h
   ·rename_i p;have:=bP p;subst this;obtain ⟨blk,f,q⟩:=g;rw[o] at f;simp only[ab] at f;obtain ⟨_,u⟩:=q _ _ _ _ f.symm;obtain ⟨rfl,rfl⟩:=u rfl;refine ⟨λz k=>?_,λm σs s hs=>.inr (.inl ⟨j,b,d,l,e,rfl,hs b (by simp[fM]),o,?_⟩)⟩
    ·simp only[fM,dO,FG,EG] at k
     grind
    ·have y:=lw h;rw[iE,<-y.2];rfl
   grind [xj]
  grind [xj]
 |_=>exact ⟨by simp[fM],λm σs s _=>CM.data h⟩
theorem Qs{d a:D}(h:eqK d a=true):d=a:=by
 unfold eqK at h;split at h
 ·rfl
 ·rfl
 ·rfl
 ·rfl
 ·simp_all
 ·simp_all
 simp_all
theorem uC{b g:Nat}(h:AU m b g s=some s'):Mo s s'/\s'.rw=s.rw/\s'.cl=s.cl/\Bd m s' b g/\(MI m σ1 s->MI m σ1 s'):=by
 unfold AU at h;split at h
 ·rename_i a;split at h
  ·rename_i e;simp only[ab] at h;subst h;exact ⟨Mo.refl s,rfl,rfl,.inl ⟨oS.mp a,(bP e).symm⟩,id⟩
  simp_all
 ·rename_i a;have d:m<=b:=by
   grind [Nat.blt_eq]
  split at h
  ·rename_i o i;split at h
   ·rename_i e;simp only[ab] at h;subst h;have:=bP e;subst this;exact ⟨Mo.refl s,rfl,rfl,.inr ⟨d,i⟩,id⟩
   simp_all
  ·rename_i i;split at h
   ·rename_i j;simp only[ab] at h;subst h;refine ⟨⟨λq o k=>?_,λ_ h=>h⟩,rfl,rfl,.inr ⟨d,?_⟩,λI=>⟨λp f=>?_,I.fz⟩⟩
    ·grind [kT,Nat.eq_of_beq_eq_true]
    ·grind [kT,Nat.beq_refl]
    ·rcases dO.1 f with rfl | f
     ·simp_all
     ·exact I.ge p f
   simp_all
theorem Gz{p:CP}{x:TC}(h:Zd m σ1 p x s=some s')(g:GC σ1 x):∃Z,s'.cl=s.cl++Z/\s'.rw=s.rw/\Mo s s'/\(MI m σ1 s->MI m σ1 s')/\∀σs e y r,uS σs p (Z++e)=some (y,r)->r=e/\CM m σ1 σs s' x y:=by
 unfold Zd at h;split at h
 ·rename_i c i b v n;split at h
  ·rename_i a ha;simp only[ab] at h;subst h;obtain ⟨N,O⟩:=Gy ha g;refine ⟨_,rfl,rfl,⟨λ_ _ h=>h,λ_ h=>kE _ h⟩,λI=>⟨I.ge,λz A=>?_⟩,λσs e y r k=>?_⟩
   ·rcases dO.1 A with rfl | A
    ·exact N _ (by simp[fM])
    ·exact I.fz z A
   ·simp only[List.singleton_append,uS,Gc,ab,aC] at k;obtain ⟨rfl,rfl⟩:=k;exact ⟨rfl,O m σs _ (by simp[fM])⟩
  simp_all
 ·rename_i c x hx;split at h
  ·rename_i a ha;simp only[ab] at h;subst h;refine ⟨_,rfl,rfl,⟨λ_ _ h=>h,λ_ h=>h⟩,λI=>⟨I.ge,I.fz⟩,λσs e y r k=>?_⟩;simp only[List.singleton_append,uS,Gc,ab,aC] at k
   grind [CM.data]
  simp_all
 ·rename_i u v;simp only[ab] at h;subst h;refine ⟨_,rfl,rfl,⟨λ_ _ h=>h,λ_ h=>h⟩,λI=>⟨I.ge,I.fz⟩,λσs e y r k=>?_⟩;simp only[List.singleton_append,uS,Gc,ab,aC] at k;obtain ⟨rfl,rfl⟩:=k;exact ⟨rfl,.inl ⟨λ_ _ _ _ _ h=>h,rfl,.inr rfl⟩⟩
 ·rename_i b i z v n;split at h
  ·rename_i j l lv cv q;split at h
   ·rename_i o;have:=bP o;subst this;obtain ⟨blk,N,O⟩:=g;rw[q] at N;simp only[ab] at N;obtain ⟨_,h3⟩:=O _ _ _ _ N.symm;obtain ⟨rfl,rfl⟩:=h3 rfl;obtain ⟨E,G,R,K,L⟩:=uC (σ1:=σ1) h;refine ⟨[],by simp_all,G,E,L,λσs e y r k=>?_⟩;simp only[List.nil_append,uS] at k;split at k
    ·rename_i i' l' S T hs;simp only[ab,aC] at k;obtain ⟨rfl,rfl⟩:=k;exact ⟨rfl,.inr (.inr (.inl ⟨_,b,z,_,l,cv,i',S,l',T,rfl,K,q,rfl,hs⟩))⟩
    simp_all
   simp_all
  simp_all
 ·rename_i b off sz z ad U;split at h
  ·rename_i o;simp only[aU] at o;have W:=bP o.1;have X:=bP o.2;subst W X;obtain ⟨E,G,R,K,L⟩:=uC (σ1:=σ1) h;refine ⟨[],by simp_all,G,E,L,λσs e y r k=>?_⟩;simp only[List.nil_append,uS] at k;split at k
   ·rename_i q;simp only[ab,aC] at k;obtain ⟨rfl,rfl⟩:=k;exact ⟨rfl,.inr (.inr (.inr (.inl ⟨b,z,off,sz,rfl,K,rfl,oS.mp q⟩)))⟩
   simp_all
  simp_all
 ·rename_i b z;obtain ⟨E,G,R,K,L⟩:=uC (σ1:=σ1) h;refine ⟨[],by simp_all,G,E,L,λσs e y r k=>?_⟩;simp only[List.nil_append,uS] at k;split at k
  ·rename_i q;simp only[ab,aC] at k;obtain ⟨rfl,rfl⟩:=k;exact ⟨rfl,.inr (.inr (.inr (.inr (.inl ⟨b,z,rfl,K,rfl,oS.mp q⟩))))⟩
  simp_all
 ·rename_i f b sz f' z U;split at h
  ·rename_i o;simp only[aU] at o;have W:=bP o.1;have X:=bP o.2;subst W X;obtain ⟨E,G,R,K,L⟩:=uC (σ1:=σ1) h;refine ⟨[],by simp_all,G,E,L,λσs e y r k=>?_⟩;simp only[List.nil_append,uS] at k;split at k
   ·rename_i q;simp only[ab,aC] at k;obtain ⟨rfl,rfl⟩:=k;exact ⟨rfl,.inr (.inr (.inr (.inr (.inr ⟨_,b,z,_,rfl,K,rfl,oS.mp q⟩))))⟩
   simp_all
  simp_all
 ·rename_i d d';split at h
  ·rename_i o;have:=Qs o;subst this;simp only[ab] at h;subst h;refine ⟨[],by simp_all,rfl,Mo.refl s,id,λσs e y r k=>?_⟩;simp only[List.nil_append,uS] at k;split at k
   ·rename_i q;simp only[ab,aC] at k;obtain ⟨rfl,rfl⟩:=k;exact ⟨rfl,.inl ⟨λ_ _ _ _ _ h=>h,q,.inr rfl⟩⟩
   simp_all
  simp_all
 simp_all
theorem IT:∀{ps:List CP}{xs:List TC}{s s':MS},DQ m σ1 ps xs s=some s'->(∀x∈xs,GC σ1 x)->∃f,s'.cl=s.cl++f/\s'.rw=s.rw/\Mo s s'/\(MI m σ1 s->MI m σ1 s')/\∀σs a d r,uz σs ps (f++a)=some (d,r)->r=a/\ar (CM m σ1 σs s') xs d:=by
 intro ps;induction ps with
 |nil=>
  intro xs s s' h g;cases xs with
  |nil=>simp only[DQ,ab] at h;subst h;refine ⟨[],by simp,rfl,Mo.refl s,id,λσs a d r b=>?_⟩;simp only[List.nil_append,uz,ab,aC] at b;obtain ⟨rfl,rfl⟩:=b;exact ⟨rfl,.nil⟩
  |cons x xs=>grind [DQ]
 |cons p ps ih=>
  intro xs s s' h g;cases xs with
  |nil=>grind [DQ]
  |cons x xs=>
   simp only[DQ] at h;split at h
   ·rename_i s1 j;obtain ⟨k,N,O,l,o,q⟩:=Gz j (g x (li ..));obtain ⟨u,R,S,i,v,z⟩:=ih h λy b=>g y (kE _ b);refine ⟨k++u,by grind,by grind,l.trans i,λI=>v (o I),λσs a d r b=>?_⟩;rw[tD] at b;simp only[uz] at b;split at b
    ·rename_i y A E;obtain ⟨rfl,c1⟩:=q σs _ y A E;split at b
     ·rename_i G T K;simp only[ab,aC] at b;obtain ⟨rfl,rfl⟩:=b;obtain ⟨e,L⟩:=z σs _ _ _ K;exact ⟨e,.cons (c1.mono i) L⟩
     grind
    grind
   simp_all
def VM(m:Nat)(σ1 σs:TH)(s:MS):TV->TV->Prop
 |.c x,.c y=>CM m σ1 σs s x y
 |.agg xs,.agg a=>ar (CM m σ1 σs s) xs a
 |_,_=>False
theorem VM.mono(h:Mo s s'){x y:TV}(c:VM m σ1 σs s x y):VM m σ1 σs s' x y:=by
 cases x with
 |c x => cases y with
  |c y=>exact CM.mono h c
  |_=>exact c.elim
 |agg i => cases y with
  |agg j=>exact ar.mono (λ_ _=>CM.mono h) c
  |_=>exact c.elim
 |aB i=>exact c.elim
theorem SQ:∀{cs:List CC}{xs:List TC}{a:aB cs},xT cs (xs.map (wu σ1))=some a->(∀x∈xs,GC σ1 x)->(∀b∈fM xs,∃(i:Nat)(l:List (TT i))(f j:Nat),σ1[b]? = some (.row i l f j))/\∀m σs s,(∀b∈fM xs,b∈s.fz)->ar (CM m σ1 σs s) xs (qi cs a):=by
 intro cs;induction cs with
 |nil=>
  intro xs a h g;cases xs with
  |nil=>exact ⟨by simp[fM],λm σs s _=>.nil⟩
  |cons x xs=>grind [xT]
 |cons c cs ih=>
  intro xs a h g;cases xs with
  |nil=>grind [xT]
  |cons x xs=>
   simp only[mb,xT] at h;split at h
   ·rename_i v z k o;simp only[ab] at h;subst h;obtain ⟨A,p⟩:=Gy k (g x (li ..));obtain ⟨E,q⟩:=ih o λy u=>g y (kE _ u);have e:∀b,b∈fM (x::xs)↔b∈fM [x]∨b∈fM xs:=by
     intro b;cases x <;> simp[fM]
    refine ⟨λb d=>?_,λm σs s hs=>.cons (p m σs s λb d=>hs b ((e b).2 (.inl d))) (q m σs s λb d=>hs b ((e b).2 (.inr d)))⟩
    grind
   simp_all
theorem XK{p:RO}{v:TV}(h:mRO m σ1 p v s=some s')(g:GV σ1 v):∃N,s'.cl=s.cl++N/\s'.rw=s.rw/\Mo s s'/\(MI m σ1 s->MI m σ1 s')/\∀σs d y r,wo σs p (N++d)=some (y,r)->r=d/\VM m σ1 σs s' v y:=by
 unfold mRO at h;split at h
 ·rename_i c;split at h
  ·rename_i a k;simp only[ab] at h;subst h;cases v with
   |c x=>
    obtain ⟨o,u⟩:=Gy (c:=c) k g;refine ⟨_,rfl,rfl,⟨λ_ _ h=>h,λ_ h=>List.mem_append_right _ h⟩,λI=>⟨I.ge,λb l=>?_⟩,λσs d y r f=>?_⟩
    ·rcases uQ.1 l with l | l
     ·exact o b l
     ·exact I.fz b l
    ·simp only[List.singleton_append,wo,Gc,ab,aC] at f;obtain ⟨rfl,rfl⟩:=f;exact ⟨rfl,u m σs _ λb l=>Zt _ l⟩
   |agg q=>grind [dX,mc,BM]
   |aB q=>grind [dX,mc,BM]
  simp_all
 ·rename_i i;split at h
  ·rename_i a k;simp only[ab] at h;subst h;cases v with
   |c x=>grind [dX,mc,wK]
   |aB x=>grind [dX,mc,wK]
   |agg q=>
    simp only[dX,mc,wK] at k;split at k
    ·rename_i t R;simp only[ab] at k;subst k;obtain ⟨o,u⟩:=SQ R g;refine ⟨_,rfl,rfl,⟨λ_ _ h=>h,λ_ h=>List.mem_append_right _ h⟩,λI=>⟨I.ge,λb l=>?_⟩,λσs d y r f=>?_⟩
     ·rcases uQ.1 l with l | l
      ·exact o b l
      ·exact I.fz b l
     ·simp only[List.singleton_append,wo,Gc,ab,aC] at f;obtain ⟨rfl,rfl⟩:=f;refine ⟨rfl,?_⟩;show ar _ q (qi _ _);rw[Y.pm];exact u m σs _ λb l=>Zt _ l
    simp_all
  simp_all
 ·rename_i i;split at h
  ·rename_i a k;simp only[ab] at h;subst h;refine ⟨_,rfl,rfl,⟨λ_ _ h=>h,λ_ h=>h⟩,λI=>⟨I.ge,I.fz⟩,λσs d y r f=>?_⟩;simp only[List.singleton_append,wo,Gc,ab,aC] at f;obtain ⟨rfl,rfl⟩:=f;refine ⟨rfl,?_⟩;cases v with
   |c x=>
    cases x with
    |fp j b off=>
     simp only[dX,wu,mc] at k;unfold wN at k;split at k
     ·rename_i U W O;simp only[TV.c.injEq,TC.fp.injEq] at O;obtain ⟨rfl,u,rfl⟩:=O;cases u;split at k
      ·rename_i e _;subst e;simp only[ab] at k;subst k;exact .inl ⟨λ_ _ _ _ _ h=>h,rfl,.inr rfl⟩
      simp_all
     simp_all
    |own j b v n=>
     exfalso;simp only[dX,wu,mc] at k;split at k
     ·split at k <;> simp[wN] at k
     grind [wN]
    |_=>grind [dX,wu,mc,wN]
   |agg q=>grind [dX,mc,wN]
   |aB q=>grind [dX,mc,wN]
  simp_all
 ·rename_i p x;obtain ⟨L,z,A,E,G,K⟩:=Gz h g;refine ⟨L,z,A,E,G,λσs d y r f=>?_⟩;simp only[wo] at f;split at f
  ·rename_i S T o;simp only[ab,aC] at f;obtain ⟨rfl,rfl⟩:=f;exact K σs d _ _ o
  simp_all
 ·rename_i X q;obtain ⟨L,z,A,E,G,K⟩:=IT h g;refine ⟨L,z,A,E,G,λσs d y r f=>?_⟩;simp only[wo] at f;split at f
  ·rename_i S T o;simp only[ab,aC] at f;obtain ⟨rfl,rfl⟩:=f;exact K σs d _ _ o
  simp_all
 simp_all
theorem TF:∀{ps:List RO}{xs:List TV}{s s':MS},BR m σ1 ps xs s=some s'->(∀x∈xs,GV σ1 x)->∃f,s'.cl=s.cl++f/\s'.rw=s.rw/\Mo s s'/\(MI m σ1 s->MI m σ1 s')/\∀σs a d r,mV σs ps (f++a)=some (d,r)->r=a/\ar (VM m σ1 σs s') xs d:=by
 intro ps;induction ps with
 |nil=>
  intro xs s s' h g;cases xs with
  |nil=>simp only[BR,ab] at h;subst h;refine ⟨[],by simp,rfl,Mo.refl s,id,λσs a d r b=>?_⟩;simp only[List.nil_append,mV,ab,aC] at b;obtain ⟨rfl,rfl⟩:=b;exact ⟨rfl,.nil⟩
  |cons x xs=>grind [BR]
 |cons p ps ih=>
  intro xs s s' h g;cases xs with
  |nil=>grind [BR]
  |cons x xs=>
   simp only[BR] at h;split at h
   ·rename_i s1 j;obtain ⟨k,N,O,l,o,q⟩:=XK j (g x (li ..));obtain ⟨u,R,S,i,v,z⟩:=ih h λy b=>g y (kE _ b);refine ⟨k++u,by grind,by grind,l.trans i,λI=>v (o I),λσs a d r b=>?_⟩;rw[tD] at b;simp only[mV] at b;split at b
    ·rename_i y A E;obtain ⟨rfl,c1⟩:=q σs _ y A E;split at b
     ·rename_i G T K;simp only[ab,aC] at b;obtain ⟨rfl,rfl⟩:=b;obtain ⟨e,L⟩:=z σs _ _ _ K;exact ⟨e,.cons (c1.mono i) L⟩
     grind
    grind
   simp_all
end
end Go.Abs
end
section
namespace Go.Abs
noncomputable section
variable[Gl][Y:Ty]
def pN(x y:TB):Prop:=(∃(i:Nat)(l:List (TT i))(d e a b:Nat),x=.row i l d e/\y=.row i l a b)∨(∃(j:Nat)(st:Bool)(l:List (Int×TT j))(v f:Nat),x=.mp j st l v/\y=.mp j st l f)
def PC.rw:PC->Bool
 |.h ..=>false
 |_=>true
variable{m:Nat}{σ σ1 σs:TH}{s s':MS}
theorem SJ (hg:∀(b:Nat) w cs,σ1[b]? = some (.cells w cs)→∀p∈cs,GC σ1 p.2):∀{ps:List PC} {s s':MS},zZ m σ σ1 ps s=some s' →
  ∃ L Lc, s'.rw = s.rw ++ L ∧ s'.cl = s.cl ++ Lc ∧ Mo s s' ∧ (MI m σ1 s → MI m σ1 s') ∧ (∀ p ∈ ps, p.blk < m) ∧
   (∀f d E r,br f ps (L++d)=some (E,r)→r=d∧∀b:Nat,((∀p∈ps,p.rw=true→p.blk≠b)∧E[b]? = f[b]?)∨∃x y,σ1[b]? = some x∧E[b]? = some y∧pN x y) ∧
   (∀σs f d σ' r,dV σs ps f (Lc++d)=some (σ',r)→(∀(b:Nat) w cs w1 u,f[b]? = some (.cells w cs)→σ1[b]? = some (.cells w1 u)→cs.length=u.length)→r=d ∧
    (∀(b j:Nat) p,PC.h b j p∈ps→∃w cs w' k x y,σ1[b]? = some (.cells w cs)∧σ'[b]? = some (.cells w' k)∧cs[j]? = some x∧k[j]? = some y∧CM m σ1 σs s' x.2 y.2) ∧
    (∀(b:Nat) w cs,f[b]? = some (.cells w cs)→∃w' k,σ'[b]? = some (.cells w' k)∧∀j:Nat,(∀p,PC.h b j p∉ps)→k[j]? = cs[j]?)):=by
 intro ps
 induction ps with
 | nil =>
  intro s s' h
  simp only [zZ,ab] at h
  subst h
  refine ⟨[],[],by simp,by simp,Mo.refl s,id,by simp,fun f d E r h=>?_,fun σs f d σ' r h _=>?_⟩
  ·simp only [List.nil_append,br,ab,aC] at h
   simp_all
  ·simp only [List.nil_append,dV,ab,aC] at h
   grind
 | cons p ps ih =>
  intro s s' h
  cases p with
  | h b j p =>
   simp only [zZ] at h
   split at h
   ·rename_i w1 u N z
    split at h
    ·rename_i x hx
     split at h
     ·rename_i s1 h1
      obtain ⟨L1,a1,a2,a3,a4,a5⟩:=Gz h1 (hg b w1 u N x (sT hx))
      obtain ⟨L,O,T,U,K,R,b5,W,X⟩:=ih h
      refine ⟨L,L1++O,by grind,by grind,a3.trans K,fun I=>R (a4 I),fun q o=>?_,fun f d E r h=>?_,fun σs f d σ' r h Z=>?_⟩
      ·rcases dO.1 o with rfl | o
       ·exact oS.mp z
       grind
      ·grind [br,PC.rw]
      ·rw [tD] at h
       simp only [dV] at h
       split at h
       ·rename_i y r' w0 ad h2 h3
        obtain ⟨rfl,c1⟩:=a5 σs _ y r' h2
        have ax:=Z b w0 ad w1 u h3 N
        obtain ⟨e,d1,d2⟩:=X σs _ d σ' r h fun v w cs w2 a0 A e2=>by
         grind
        refine ⟨e,fun v j' p' hp=>?_,fun v w cs A=>?_⟩
        ·by_cases a6:∃q,PC.h v j' q∈ps
         ·grind
         ·rcases dO.1 hp with A | hp
          ·simp only [PC.h.injEq] at A
           obtain ⟨rfl,rfl,rfl⟩:=A
           obtain ⟨w',k,e2,e3⟩:=d2 v _ _ (Ah h3)
           refine ⟨w1,u,w',k,x,(w0+1,y),N,e2,hx,?_,c1.mono K⟩
           grind
          grind
        ·by_cases g:v=b
         ·subst g
          rw [h3] at A
          simp only [ab,TB.cells.injEq] at A
          grind [Ah]
         ·obtain ⟨w',k,e2,e3⟩:=d2 v w cs (by grind)
          grind
       grind
     grind
    grind
   grind
  | w b i =>
   simp only [zZ] at h
   split at h
   ·rename_i i0 l0 a7 a8 N z
    split at h
    ·rename_i a ha
     obtain ⟨e,rfl⟩:=IU ha
     subst e
     obtain ⟨L,O,T,U,K,R,b5,W,X⟩:=ih h
     refine ⟨_::L,O,by rw [T,tD]; rfl,U,⟨K.Dq,K.fz⟩,fun I=>R ⟨I.ge,I.fz⟩,fun q o=>?_,fun f d E r h=>?_,fun σs f d σ' r h Z=>?_⟩
     ·rcases dO.1 o with rfl | o
      ·exact oS.mp z
      grind
     ·simp only [List.cons_append,br,Gc] at h
      split at h
      ·rename_i l j l1 a9 bc S A
       simp only [ab] at S
       subst S
       split at h
       ·obtain ⟨e,c1⟩:=W _ d E r h
        refine ⟨e,fun v=>?_⟩
        rcases c1 v with ⟨c1,G⟩ | c1
        ·by_cases g:v=b
         ·subst g
          rw [Ah A] at G
          exact .inr ⟨_,_,N,G,.inl ⟨_,_,_,_,_,_,rfl,rfl⟩⟩
         ·rw [Mt g] at G
          refine .inl ⟨fun q o hr=>?_,G⟩
          rcases dO.1 o with rfl | o
          ·exact fun e=>g e.symm
          grind
        grind
       grind
      grind
     grind [dV]
    grind
   grind
  | m b i st =>
   simp only [zZ] at h
   split at h
   ·rename_i i0 af l0 v0 N z
    split at h
    ·rename_i a ak ha
     obtain ⟨e,rfl⟩:=sP ha
     subst e
     have:st=af:=eq_of_beq ak
     subst this
     obtain ⟨L,O,T,U,K,R,b5,W,X⟩:=ih h
     refine ⟨_::L,O,by rw [T,tD]; rfl,U,⟨K.Dq,K.fz⟩,fun I=>R ⟨I.ge,I.fz⟩,fun q o=>?_,fun f d E r h=>?_,fun σs f d σ' r h Z=>?_⟩
     ·rcases dO.1 o with rfl | o
      ·exact oS.mp z
      grind
     ·simp only [List.cons_append,br,Gc] at h
      split at h
      ·rename_i l j0 bd l1 v1 S A
       simp only [ab] at S
       subst S
       obtain ⟨e,c1⟩:=W _ d E r h
       refine ⟨e,fun v=>?_⟩
       rcases c1 v with ⟨c1,G⟩ | c1
       ·by_cases g:v=b
        ·subst g
         rw [Ah A] at G
         exact .inr ⟨_,_,N,G,.inr ⟨_,_,_,_,_,rfl,rfl⟩⟩
        ·rw [Mt g] at G
         refine .inl ⟨fun q o hr=>?_,G⟩
         rcases dO.1 o with rfl | o
         ·exact fun e=>g e.symm
         grind
       grind
      grind
     grind [dV]
    grind
   grind
theorem TJ (hg:∀(b:Nat) w cs,σ1[b]? = some (.cells w cs)→∀p∈cs,GC σ1 p.2):∀{f:List NB} {b:Nat} {s s':MS},yo m σ1 b f s=some s' →
  ∃ L Z, s'.rw = s.rw ++ L ∧ s'.cl = s.cl ++ Z ∧ Mo s s' ∧ (MI m σ1 s → MI m σ1 s') ∧
   (∀d l r,cK f (L++d)=some (l,r)→r=d∧∀(k:Nat) nb,f[k]? = some nb→(∀ps,nb≠.cells ps)→∃j x y,kT (b+k) s'.ρ=some j∧σ1[j]? = some x∧l[k]? = some y∧pN x y) ∧
   (∀σs g d l,dv σs f g (Z++d)=some l→∀(k:Nat) nb,f[k]? = some nb →
    (∀ps,nb=.cells ps→∃j w cs ys,kT (b+k) s'.ρ=some j∧σ1[j]? = some (.cells w cs)∧l[k]? = some (.cells 0 ys)∧ar (CM m σ1 σs s') (cs.map Prod.snd) (ys.map Prod.snd)) ∧
    ((∀ps,nb≠.cells ps)→l[k]? = g[k]?)):=by
 intro f
 induction f with
 | nil =>
  intro b s s' h
  simp only [yo,ab] at h
  subst h
  refine ⟨[],[],by simp,by simp,Mo.refl s,id,fun d l r h=>?_,fun σs g d l h k nb hk=>by grind⟩
  grind [cK]
 | cons nb f ih =>
  intro b s s' h
  have sh:∀k:Nat,b+(k+1)=b+1+k:=fun k=>by omega
  cases nb with
  | cells ps =>
   simp only [yo] at h
   split at h
   ·rename_i j o
    split at h
    ·rename_i w cs v
     split at h
     ·rename_i s1 h1
      obtain ⟨L1,a1,a2,a3,a4,a5⟩:=IT h1 (fun x hx=>by
       grind)
      obtain ⟨L,z,K,N,q,A,O,R⟩:=ih h
      refine ⟨L,L1++z,by grind,by grind,a3.trans q,fun I=>A (a4 I),fun d l r h=>?_,fun σs g d l h k nb hk=>?_⟩
      ·simp only [cK] at h
       grind
      ·rw [tD] at h
       cases g with
       | nil=>grind [dv]
       | cons b0 g =>
        simp only [dv] at h
        split at h
        ·rename_i xs r' E
         split at h
         ·rename_i u S
          simp only [ab] at h
          subst h
          obtain ⟨rfl,c1⟩:=a5 σs _ _ _ E
          have c2:=R σs g d u S
          cases k with
          | zero =>
           simp only [List.getElem?_cons_zero,ab] at hk
           subst hk
           refine ⟨fun ad e=>?_,fun T=>absurd rfl (T ps)⟩
           refine ⟨j,w,cs,_,q.Dq _ _ (a3.Dq _ _ o),v,by rw [List.getElem?_cons_zero],?_⟩
           rw [PE]
           have:(Prod.snd∘fun x:TC=>(0,x))=id:=rfl
           rw [this,List.map_id]
           grind [ar.mono,CM.mono]
          | succ k =>
           grind
         grind
        grind
     grind
    grind
   grind
  | row i =>
   simp only [yo] at h
   split at h
   ·rename_i j o
    split at h
    ·rename_i i0 l0 af ak v
     split at h
     ·rename_i a U
      obtain ⟨e,rfl⟩:=IU U
      subst e
      obtain ⟨L,z,K,N,q,A,O,R⟩:=ih h
      refine ⟨_::L,z,by rw [K,tD]; rfl,N,⟨q.Dq,q.fz⟩,fun I=>A ⟨I.ge,I.fz⟩,fun d l r h=>?_,fun σs g d l h k nb hk=>?_⟩
      ·simp only [List.cons_append,cK,Gc] at h
       split at h
       ·rename_i a' u r' G E
        simp only [ab,aC] at h G
        subst G
        obtain ⟨rfl,rfl⟩:=h
        obtain ⟨e,c1⟩:=O d u _ E
        refine ⟨e,fun k nb hk T=>?_⟩
        cases k with
        | zero=>exact ⟨j,_,_,q.Dq _ _ o,v,by rw [List.getElem?_cons_zero],.inl ⟨_,_,_,_,_,_,rfl,rfl⟩⟩
        | succ k=>grind
       grind
      ·cases g with
       | nil=>grind [dv]
       | cons b0 g =>
        simp only [dv] at h
        split at h
        ·rename_i u S
         simp only [ab] at h
         grind
        grind
     grind
    grind
   grind
  | mp i st =>
   simp only [yo] at h
   split at h
   ·rename_i j o
    split at h
    ·rename_i i0 W l0 v0 v
     split at h
     ·rename_i a X U
      obtain ⟨e,rfl⟩:=sP U
      subst e
      have:st=W:=eq_of_beq X
      subst this
      obtain ⟨L,z,K,N,q,A,O,R⟩:=ih h
      refine ⟨_::L,z,by rw [K,tD]; rfl,N,⟨q.Dq,q.fz⟩,fun I=>A ⟨I.ge,I.fz⟩,fun d l r h=>?_,fun σs g d l h k nb hk=>?_⟩
      ·simp only [List.cons_append,cK,Gc] at h
       split at h
       ·rename_i a' u r' G E
        simp only [ab,aC] at h G
        subst G
        obtain ⟨rfl,rfl⟩:=h
        obtain ⟨e,c1⟩:=O d u _ E
        refine ⟨e,fun k nb hk T=>?_⟩
        cases k with
        | zero=>exact ⟨j,_,_,q.Dq _ _ o,v,by rw [List.getElem?_cons_zero],.inr ⟨_,_,_,_,_,rfl,rfl⟩⟩
        | succ k=>grind
       grind
      ·cases g with
       | nil=>grind [dv]
       | cons b0 g =>
        simp only [dv] at h
        split at h
        ·rename_i u S
         simp only [ab] at h
         subst h
         have c2:=R σs g d u S
         cases k with
         | zero =>
          grind
         | succ k =>
          grind
        grind
     grind
    grind
   grind
end
end Go.Abs
end
