/- Lemmas. -/
import Derived.Test.YtcndmfkgdaipaaaGreatFwB
import Derived.Laws.StructEq
import GoSem.Core.Float
import GoSem.Op.Complex
import GoSem.Conv.FloatToInt
set_option linter.all false
section
namespace Go.Abs
variable[Gl]
section
variable{P:Program}{orc:fA}{Y Y' Y1 aC:ar}{n:Nat}{al al1 al2:AL}{Q:nr->AL->ar->Prop}
theorem Sem.mono{ac:aQ}{Q':nr->AL->ar->Prop}(h:Sem P ac n al Y Q)(j:∀x al' Y',Q x al' Y'->∃al2 aC,Wk Y.length al' Y' al2 aC/\Q' x al2 aC):Sem P ac n al Y Q':=by
 intro c o M Fz w a K R A U;refine h c o M Fz w a K R A λx al' Y' W w' M' Fz' s i u z E hl=>?_;obtain ⟨al2,aC,F,G⟩:=j x al' Y' s;obtain ⟨X,Z,A2,E2,l2,O⟩:=F.use u z E hl;have i:=i.wth O
 grind
def Sem.pre{ac:aQ}(hs:Sub al al1)(h:Sem P ac n al1 Y Q):Sem P ac n al Y Q:=by intro c i M Fz w a K R A j;exact h c i M Fz w a K R (A.sub hs) j
def lm.pre{ac:aQ}{k:Nat}(hs:Sub al al1)(h:lm P ac k n al1 Y Q):lm P ac k n al Y Q:=by intro c i M Fz w a K R A j;exact h c i M Fz w a K R (A.sub hs) j
def Sem.EO(i:P.follows .mixedOrders=true)(O:lT P orc){ac:aQ}{k:Nat}{x:nr}{e e':List D}{wr wr':List Nat}(h:kB P orc k ac e Y wr=some (x,e',Y',wr'))
  (o:e=xU n al) (s:Env n al1 e') (E:Q x al1 Y'):Sem P ac n al Y Q:=by
 intro c u M Fz w a K R A F;subst o;refine (II i O k).1 c ac Y Y' M Fz w _ e' a wr wr' x K u R A.de.1 h λz w' M' Fz' j G U W=>?_;have j:=(Mk.of_eq j:Mk w.heap.size M' Fz' w' z.defers a.defers)
 grind [ed.RZ,vK]
def Sem.skip(i:P.follows .mixedOrders=true)(j:Q .normal al Y):Sem P .skip n al Y Q:=by intro c o M Fz w a K R A s;have:Sem P .skip n al Y Q:=Sem.EO i (orc:=λ_ _ _ _=>none) (λt g ds Y r Y' wr h=>by simp at h) (k:=1) (wr:=[]) (wr':=[]) (e:=xU n al) rfl rfl A.de.2 j;exact this c o M Fz w a K R A s
def Sem.ret(i:P.follows .mixedOrders=true)(j:Q .ret al Y):Sem P .ret n al Y Q:=by intro c o M Fz w a K R A s;have:Sem P .ret n al Y Q:=Sem.EO i (orc:=λ_ _ _ _=>none) (λt g ds Y r Y' wr h=>by simp at h) (k:=1) (wr:=[]) (wr':=[]) (e:=xU n al) rfl rfl A.de.2 j;exact this c o M Fz w a K R A s
def Sem.exit(i:P.follows .mixedOrders=true){id:Nat}(j:Q (.exit id) al Y):Sem P (.exit id) n al Y Q:=by intro c o M Fz w a K R A s;have:Sem P (.exit id) n al Y Q:=Sem.EO i (orc:=λ_ _ _ _=>none) (λt g ds Y r Y' wr h=>by simp at h) (k:=1) (wr:=[]) (wr':=[]) (e:=xU n al) rfl rfl A.de.2 j;exact this c o M Fz w a K R A s
theorem Sem.seq{a b:aQ}(h:Sem P a n al Y λx al1 Y1=>match x with | .normal=>∃al2 aC,Wk Y.length al1 Y1 al2 aC/\Sem P b n al2 aC Q | x=>Q x al1 Y1):Sem P (.seq a b) n al Y Q:=by
 intro c j M Fz w s K R A U;cases c with
 |seq c1 W=>
  simp only[bD] at j;split at j
  ·rename_i a1 a2 h1 h2;simp only[au,aQ.seq.injEq] at j;obtain ⟨rfl,rfl⟩:=j;refine Qc (h c1 h1 M Fz w s _ R A λx al1 Y1 X w' M' Fz' Z hd R' A' E' hl=>?_);cases x with
   |normal=>obtain ⟨al2,aC,hw,hs⟩:=Z;obtain ⟨M2,R2,A2,E2,l2,W2⟩:=hw.use R' A' E' hl;exact hs W h2 M2 Fz' w' X K R2 A2 λx u z a3 w3 M3 E F G R3 A3 E3 O=>U x u z a3 w3 M3 E F (Mk.trans E3 E2.size (hd.wth W2) G) R3 A3 (E2.trans E3 l2) (jk l2 O)
   |exit i=>grind [qt]
   |ret=>exact U .ret al1 Y1 X w' M' Fz' Z hd R' A' E' hl
  simp_all
 |region id ops aa=>
  simp only[bD] at j
  grind
 |cond o c1 W=>grind [bD]
 |block id c1=>simp[bD] at j
 |loop c1=>simp[bD] at j
 |scope b=>grind [bD,Option.map_eq_some_iff,IQ]
 |rangeFunc g ps x y=>rcases dZ j with ⟨_,_,_,_,_,_,_,e⟩ | e <;> cases e
 |_=>grind [bD]
theorem Sem.cond{o:aT}{t e:aQ}{b:Bool}(u:(match o with | .t k=>lk k al | .k d=>some d)=some (.c (.lit (.bool b))))
  (U:b=true->Sem P t n al Y Q) (W:b=false->Sem P e n al Y Q):Sem P (.cond o t e) n al Y Q:=by
 intro c i M Fz w j K R A z;cases c with
 |cond x c1 E=>
  simp only[bD] at i;split at i
  ·rename_i F a1 a2 X Z h4;simp only[au,aQ.cond.injEq] at i;obtain ⟨rfl,rfl,rfl⟩:=i;have G:=nE A.de.1 X;have s:gP (F.ev (xU n al))=some b:=by
    cases F with
    |t k=>dsimp only at u;simp[aT.ev,A.de.2.2 k _ u,gP]
    |k d=>simp only[au] at u;subst u;rfl
   cases b with
   |true=>exact AM (oA G s) (U rfl c1 Z M Fz w j K R A z)
   |false=>exact xL (oA G s) (W rfl E h4 M Fz w j K R A z)
  simp_all
 |region id ops O=>
  simp only[bD] at i
  grind
 |seq c1 E=>grind [bD]
 |block id c1=>simp[bD] at i
 |loop c1=>simp[bD] at i
 |scope b=>grind [bD,Option.map_eq_some_iff,IQ]
 |rangeFunc g ps x y=>rcases dZ i with ⟨_,_,_,_,_,_,_,e⟩ | e <;> cases e
 |_=>grind [bD]
def Sem.step{a b:aQ}(al2:AL)(aC:ar)(i:Sem P a n al Y λx al1 Y1=>x=.normal/\Wk Y.length al1 Y1 al2 aC)(j:Sem P b n al2 aC Q):Sem P (.seq a b) n al Y Q:=
 Sem.seq (i.mono λx al1 Y1 ⟨o,s⟩=>⟨al1,Y1,.refl,by grind⟩)
def out(id:Nat):nr->nr
 |.exit i=>if i=id then .normal else .exit i
 |x=>x
def behind(id:Nat)(Q:nr->AL->ar->Prop)(al:AL)(Y:ar):nr->Prop
 |.normal=>Q .normal al Y
 |.ret=>Q .ret al Y
 |.exit i=>(i=id->Q .normal al Y)/\(i≠id->Q (.exit i) al Y)
theorem Sem.block{id:Nat}{b:aQ}(G:Sem P b n al Y λx al1 Y1=>∃al2 aC,Wk Y.length al1 Y1 al2 aC/\behind id Q al2 aC x):Sem P (.block id b) n al Y Q:=by
 have h:Sem P b n al Y λx al1 Y1=>∃al2 aC,Wk Y.length al1 Y1 al2 aC/\Q (out id x) al2 aC:=G.mono λx al1 Y1 ⟨al2,aC,u,hb⟩=>⟨al1,Y1,.refl,al2,aC,u,by
  cases x with
  |normal=>exact hb
  |ret=>exact hb
  |exit i=>
   by_cases hi:i=id
   ·simp only[out,if_pos hi];exact hb.1 hi
   ·simp only[out,if_neg hi];exact hb.2 hi⟩
 intro c s M Fz w z K R A O;cases c with
 |block i c1=>
  simp only[bD,cC,aQ.block.injEq] at s;obtain ⟨a1,U,rfl,rfl⟩:=s;refine NU (h c1 U M Fz w z _ R A λx al1 Y1 W w' M' Fz' X Z R' A' E' hl=>?_);obtain ⟨al2,aC,u,hq⟩:=X;obtain ⟨M2,R2,A2,E2,l2,W2⟩:=u.use R' A' E' hl;have:=O _ al2 aC W w' M2 Fz' hq (Z.wth W2) R2 A2 E2 l2;cases x with
  |normal=>exact this
  |ret=>exact this
  |exit j=>
   by_cases E:j=2 * i
   ·simp only[out,if_pos E] at this;rw[E];exact Fu this
   ·simp only[out,if_neg E] at this
    grind [Cq]
 |region id ops F=>
  simp only[bD] at s
  grind
 |seq c1 c2=>grind [bD]
 |cond o c1 c2=>grind [bD]
 |loop c1=>simp[bD] at s
 |scope b=>grind [bD,Option.map_eq_some_iff,IQ]
 |rangeFunc g ps x y=>rcases dZ s with ⟨_,_,_,_,_,_,_,e⟩ | e <;> cases e
 |_=>grind [bD]
theorem Sem.loop{b:aQ}(k:Nat)(h:lm P b k n al Y Q):Sem P (.loop b) n al Y Q:=by
 intro c i M Fz w j K R A u;cases c with
 |loop c1=>simp only[bD,cC,aQ.loop.injEq] at i;obtain ⟨F,z,rfl⟩:=i;exact uY k (h c1 z M Fz w j K R A u)
 |region id ops s=>
  simp only[bD] at i
  grind
 |seq c1 E=>grind [bD]
 |cond o c1 E=>grind [bD]
 |block id c1=>simp[bD] at i
 |scope b=>grind [bD,Option.map_eq_some_iff,IQ]
 |rangeFunc g G x y=>rcases dZ i with ⟨_,_,_,_,_,_,_,e⟩ | e <;> cases e
 |_=>grind [bD]
theorem lm.succ{b:aQ}{k:Nat}(h:Sem P b n al Y λx al1 Y1=>match x with | .normal=>∃al2 aC,Wk Y.length al1 Y1 al2 aC/\lm P b k n al2 aC Q | x=>∃al2 aC,Wk Y.length al1 Y1 al2 aC/\Q x al2 aC):lm P b (k+1) n al Y Q:=by
 intro c hc M Fz w O K R A hK;rw[Is];refine h c hc M Fz w O _ R A λx al1 Y1 a' w' M' Fz' U z W X Z hl=>?_;cases x with
 |normal=>obtain ⟨al2,aC,j,hs⟩:=U;obtain ⟨E,F,G,o,s,u⟩:=j.use W X Z hl;exact hs c hc E Fz' w' a' K F G λx aa ab a3 w3 M3 ad af ak R3 A3 E3 an=>hK x aa ab a3 w3 M3 ad af (Mk.trans E3 o.size (z.wth u) ak) R3 A3 (o.trans E3 s) (jk s an)
 |exit i=>
  obtain ⟨al2,aC,j,hq⟩:=U;obtain ⟨E,F,G,o,s,u⟩:=j.use W X Z hl;have z:=z.wth u
  grind [qt]
 |ret=>obtain ⟨al2,aC,j,hq⟩:=U;obtain ⟨E,F,G,o,s,u⟩:=j.use W X Z hl;exact hK .ret al2 aC a' w' E Fz' hq (z.wth u) F G o s
theorem Sem.rounds{b:aQ}{V:Type}(L:V->AL)(H:V->ar)(p:Nat->V->Prop)(k:Nat)(v:V)(s:p k v)(u:∀v,p 0 v->False)
  (hs:∀k v,p (k+1) v->Sem P b n (L v) (H v) λx al1 Y1=>match x with | .normal=>∃i,p k i/\Wk (H v).length al1 Y1 (L i) (H i) | x=>∃al2 aC,Wk (H v).length al1 Y1 al2 aC/\Q x al2 aC)
  (o:Sub al (L v)) (j:Y=H v):Sem P (.loop b) n al Y Q:=by
 subst j;refine Sem.loop k (lm.pre o ?_);clear o;induction k generalizing v with
 |zero=>simp_all
 |succ k ih=>
  refine lm.succ ((hs k v s).mono λx al1 Y1 z=>⟨al1,Y1,.refl,?_⟩)
  grind
def JU(P:Program)(orc:fA)(k:Nat)(os:List aH)(n:Nat)(al:AL)(Y:ar)(al':AL)(Y':ar)(is:List eC):Prop:=
 ∀e,Env n al e->∃a,lL P orc k os e Y=some (a,Y',is)/\Env n al' a
theorem EQ:∀(os:List aH)(e e':List D)(Y Y':ar)(is:List eC),lL P orc 0 os e Y=some (e',Y',is)->jN P orc os e Y=some (e',Y',is.flatMap (·.wr)):=by
 intro os;induction os with
 |nil=>intro e e' Y Y' is h;simp only[lL,au,aU] at h;obtain ⟨rfl,rfl,rfl⟩:=h;rfl
 |cons o os ih=>grind [lL,jN,dA]
theorem Sem.Bb(i:P.follows .mixedOrders=true)(O:lT P orc){os:List aH}{is:List eC}(h:JU P orc 0 os n al Y al1 Y1 is)(j:Q .normal al1 Y1):Sem P (.Bb os) n al Y Q:=by intro c o M Fz w a K R A s;obtain ⟨e',u,z⟩:=h _ A.de.2;have E:=EQ _ _ _ _ _ _ u;have:Sem P (.Bb os) n al Y Q:=Sem.EO i O (k:=1) (wr:=[]) (e:=xU n al) (e':=e') (x:=.normal) (Y':=Y1) (wr':=is.flatMap (·.wr)++[]) (by grind [kB]) rfl z j;exact this c o M Fz w a K R A s
theorem Sem.HH(j:P.follows .mixedOrders=true)(O:lT P orc){os:List aH}{i:List Nat}{k p:Nat}{is:List eC}(h:JU P orc k os n al Y al1 Y1 is)(F:(eT i is&&l_ i p k os.length&&Nat.ble p k)=true)(o:Q .normal al1 Y1) :
  Sem P (.HH os i k p) n al Y Q:=by
 intro c s M Fz w a K R A u;obtain ⟨e',G,z⟩:=h _ A.de.2;have E:jO P orc os i p k (xU n al) Y=some (e',Y1,is.flatMap (·.wr)):=by
  unfold jO
  simp_all
 have:Sem P (.HH os i k p) n al Y Q:=Sem.EO j O (k:=1) (wr:=[]) (e:=xU n al) (e':=e') (x:=.normal) (Y':=Y1) (by simp only[kB,E];rfl) rfl z o;exact this c s M Fz w a K R A u
theorem NH:∀(os:List aH)(n m:Nat)(e:List D)(Y:ar)(r a:List D×ar×List eC),lL P orc n os e Y=some r->lL P orc m os e Y=some a->r=a:=by
 intro os;induction os with
 |nil=>grind [lL]
 |cons o os ih=>grind [lL]
theorem Sem.drwN(j:P.follows .mixedOrders=true)(O:lT P orc){os:List aH}{i:List Nat}{k p:Nat}{is:List eC}(h:JU P orc os.length os n al Y al1 Y1 is)(Z:(eT i is&&l_ i p os.length os.length&&Nat.ble p os.length)=true)(u:Q .normal al1 Y1) :
  Sem P (.HH os i k p) n al Y Q:=by
 intro c z M Fz w a K R A E;obtain ⟨e',F,G⟩:=h _ A.de.2;have U:∀m r,jO P orc os i p m (xU n al) Y=some r->r=(e',Y1,is.flatMap (·.wr)):=by
  intro m r o;unfold jO at o;split at o
  ·rename_i e2 aC W s;have:=NH _ _ _ _ _ _ _ s F
   simp_all
  simp_all
 have s:jO P orc os i p os.length (xU n al) Y=some (e',Y1,is.flatMap (·.wr)):=by
  unfold jO
  simp_all
 have X:kB P orc 1 (.HH os i k p) (xU n al) Y []=some (.normal,e',Y1,is.flatMap (·.wr)++[]):=by grind [kB]
 have:Sem P (.HH os i k p) n al Y Q:=Sem.EO j O (k:=1) (wr:=[]) (e:=xU n al) (e':=e') (x:=.normal) (Y':=Y1) X rfl G u;exact this c z M Fz w a K R A E
end
end Go.Abs
end
section
namespace Go.Abs
variable[Gl]
open Go.RowKit
def Pure(P:Program)(g:FuncId)(ds:List D)(r:D):Prop:=aW P g=true/\Ok P g ds [] r []
section
variable{P:Program}{Y Y':ar}{M M':Nat->Option Nat}{Fz Fz':Nat->Prop}{w w':World}
theorem V.data{d:D}{v:Value}(h:V Y M Fz w d v)(hl:d.low 0=true)(Y':ar)(M':Nat->Option Nat):V Y' M' Fz w d v:=by
 induction h with
 |c h=>exact .c h
 |any v=>exact .any v
 |ptr a A h u j=>grind [D.low]
 |sl a n cap E A h u j=>grind [D.low]
 |mp c A h j=>grind [D.low]
 |fn o F s G j K x z=>simp only[D.low,bG] at hl;exact .fn o F s G (λi d v a b=>x i d v a b (D.a_ hl.1 i d a)) (λi d v a b=>z i d v a b (D.a_ hl.2 i d a))
 |agg o s j ih=>simp only[D.low] at hl;exact .agg o s (λi d v a b=>ih i d v a b (D.a_ hl i d a))
 |aV o s j ih=>simp only[D.low] at hl;exact .aV o s (λi d v a b=>ih i d v a b (D.a_ hl i d a))
def D.ground:D->Bool
 |.c (.lit _)=>true
 |.agg ds=>iH ds
 |.aV ds=>iH ds
 |_=>false
where iH:List D->Bool
 |[]=>true
 |d::ds=>d.ground&&iH ds
theorem D.Cj:∀{ds:List D},D.ground.iH ds=true->∀(i:Nat) d,ds[i]? = some d->d.ground=true:=by
 intro ds;induction ds with
 |nil=>simp_all
 |cons x ds ih=>
  intro h i d hi;simp only[D.ground.iH,bG] at h
  grind
theorem V.lit{d:D}{v:Value}(h:V Y M Fz w d v)(hl:d.ground=true)(Y':ar)(M':Nat->Option Nat)(Fz':Nat->Prop)(w':World):V Y' M' Fz' w' d v:=by
 induction h with
 |c h=>
  rename_i x v;cases x with
  |lit u=>cases h;exact .c (.lit _)
  |_=>grind [D.ground]
 |any v=>grind [D.ground]
 |ptr a A h z j=>grind [D.ground]
 |sl a n cap E A h z j=>grind [D.ground]
 |mp c A h j=>grind [D.ground]
 |fn o K s O j R F G=>grind [D.ground]
 |agg o s j ih=>simp only[D.ground] at hl;exact .agg o s (λi d v a b=>ih i d v a b (D.Cj hl i d a))
 |aV o s j ih=>simp only[D.ground] at hl;exact .aV o s (λi d v a b=>ih i d v a b (D.Cj hl i d a))
theorem Pure.data{g:FuncId}{ds:List D}{r:D}(h:Pure P g ds r)(F:ds.all (D.low 0)=true)(G:r.low 0=true):Ok P g ds Y r Y:=by
 intro M Fz w K R hs u;have O:Rel [] (λ_=>none) Fz w:=⟨λb c h=>by simp at h,λb b' c h=>by simp at h,R.fz,R.gl⟩;refine (h.2 _ Fz w K O hs λi d v a b=>(u i d v a b).data (iK.1 F d (Av a)) _ _).mono λe w' U=>?_;obtain ⟨v,M',Fz',rfl,A,W,j⟩:=U;have hb:∀c:Nat,c<w.heap.size->w'.heap[c]? = w.heap[c]?:=λc s=>j.frame c s (λb h=>by simp at h);have E:bF Y M Fz w Y M Fz' w':={
  size:=j.size
  frame:=λc s _=>hb c s
  lP:=λb c h=>.inl ⟨b,h⟩
  fz:=j.fz
  nF:=λc h=>by
   rcases j.nF c h with h | ⟨b,h⟩ | h
   ·simp_all
   ·simp at h
   omega
  qe:=λc x T fr h=>⟨x,by grind,rfl⟩
  keep:=λb z h=>⟨z,h,cP _,λ_=>rfl⟩
  out:=j.out }
 refine ⟨v,M,Fz',rfl,⟨λb c h=>?_,R.inj,A.fz,A.gl⟩,W.data G _ _,E⟩;obtain ⟨h1,z,o,X,h3,Z⟩:=R.blk b c h;have s:=(R.lt h).2;refine ⟨λhf=>?_,z,o,X,by simp_all,Z.mono E⟩;rcases j.nF c hf with h | ⟨b,h⟩ | h
 ·grind
 ·simp at h
 ·omega
def Pure.lend{g:FuncId}{ds j:List D}{r:D}(h:Pure P g j r)(s:ds.mapM (xe Y 0 100)=some j)(u:r.ground=true):Ok P g ds Y r Y:=by
 intro M Fz w x R hs z;have A:Rel [] (λ_=>none) (FT M Fz 0) w:=⟨λb c h=>by simp at h,λb G c h=>by simp at h,λc h=>by
  rcases h with h | ⟨b,_,h⟩
  ·exact R.fz c h
  ·exact (R.lt h).2,Gl.mono (λc h=>⟨.inl h,rfl⟩) R.gl⟩
 have hl:j.length=ds.length:=(KJ s).1;refine (h.2 _ _ w x A (by omega) λi d v a b=>?_).mono λe w' E=>?_
 ·grind [KJ,JX]
 ·obtain ⟨v,M',Fz',rfl,K,F,o⟩:=E;have hb:Below w.heap.size w w':=⟨o.out.1,o.out.2.1,o.out.2.2,o.size,λk hk=>o.frame k hk (λb h=>by simp at h)⟩;exact ⟨v,M,Fz,rfl,R.below hb,F.lit u _ _ _ _,bF.below R hb⟩
end
def nrmC:C->C
 |.lit (.slice none 0 0)=>.cJ false []
 |.cJ _ a=>.cJ false a
 |x=>x
def xk:D->D
 |.c x=>.c (nrmC x)
 |d=>d
def CQ:D->D
 |.c x=>.c (nrmC x)
 |.agg ds=>.agg (ds.map xk)
 |d=>d
def JM{Fz:Nat->Prop}{w:World}{x:C}{v:Value}(h:VC Fz w x v):VC Fz w (nrmC x) v:=by
 unfold nrmC;split
 ·cases h;exact .cJ (es:=[]) 0 none 0 (by simp) (λ_=>rfl) (λ_ _=>undef) (by simp) (by simp) (by simp) (by simp)
 ·cases h with
  |cJ aB a cap j l c i b m o=>exact .cJ aB a cap (by simp) l c i b m o
 omega
theorem Iz{Y:ar}{M:Nat->Option Nat}{Fz:Nat->Prop}{w:World}{d:D}{v:Value}(h:V Y M Fz w d v):V Y M Fz w (xk d) v:=by
 unfold xk;split
 ·cases h with | c h=>exact .c (JM h)
 omega
theorem Ep{Y:ar}{M:Nat->Option Nat}{Fz:Nat->Prop}{w:World}{d:D}{v:Value}(h:V Y M Fz w d v):V Y M Fz w (CQ d) v:=by
 unfold CQ;split
 ·cases h with | c h=>exact .c (JM h)
 ·cases h with
  |agg j l m=>
   refine .agg j (by simp_all) (λi d v a b=>?_)
   grind [Iz]
 omega
theorem Ok.CQ{P:Program}{g:FuncId}{ds:List D}{Y Y':ar}{r:D}(h:Ok P g (ds.map CQ) Y r Y'):Ok P g ds Y r Y':=by
 intro M Fz w j R hs o;refine h M Fz w j R (by simp_all) λi d v a b=>?_
 grind [Ep]
abbrev xE:=List (Nat×(List D->Option D))
def Wa(g:Nat):xE->Option (List D->Option D)
 |[]=>none
 |(s,f)::l=>match Nat.beq s g with | true=>some f | false=>Wa g l
def D.plain:D->Bool
 |.fn ..=>false
 |.agg ds=>ds.all λd=>match d with | .fn ..=>false | _=>true
 |.aV ds=>ds.all λd=>match d with | .fn ..=>false | _=>true
 |_=>true
def CW(S:xE):xg:=λg ds Y=>
 match Wa g S with
 |none=>none
 |some f=>
  if ds.all (λd=>d.low 0&&d.plain) then (f (ds.map CQ)).bind λr=>if r.low 0 then some (r,Y,[]) else none
  else
   match ds.mapM (xe Y 0 100) with
   |some a=>(f (a.map CQ)).bind λr=>if r.ground then some (r,Y,[]) else none
   |none=>none
def rO(P:Program)(S:xE):Prop:=∀p∈S,∀ds r,p.2 ds=some r->Pure P p.1 ds r
theorem spk_mem{g:Nat}{f:List D->Option D}:∀{S:xE},Wa g S=some f->(g,f)∈S:=by
 intro S;induction S with
 |nil=>grind [Wa]
 |cons p S ih=>grind [Wa,Nat.eq_of_beq_eq_true]
theorem Ys{m:Nat}{d:D}(h:d.low m=true):(xk d).low m=true:=by unfold xk;grind [D.low]
theorem Zi{m:Nat}:∀{ds:List D},D.low.cW m ds=true->D.low.cW m (ds.map xk)=true:=by
 intro ds;induction ds with
 |nil=>simp_all
 |cons d ds ih=>intro h;simp only[D.low.cW,bG,rS] at h ⊢;grind [Ys]
theorem low_nrm{m:Nat}{d:D}(h:d.low m=true):(CQ d).low m=true:=by
 unfold CQ
 grind [D.low,Zi]
def mh{P:Program}{S:xE}(h:rO P S):rV P (CW S):=by
 intro g ds Y r Y' wr a;unfold CW at a;split at a
 ·grind
 ·rename_i f x;have s:=spk_mem x;split at a
  ·rename_i hl;rw[c_] at a;obtain ⟨u,j,b⟩:=a;split at b
   ·rename_i l;simp only[au,aU] at b;obtain ⟨rfl,rfl,rfl⟩:=b;have i:=h _ s _ _ j;refine ⟨i.1,(i.data ?_ l).CQ,cP _,λ_ _ _=>rfl⟩;rw[iK] at hl ⊢;intro d v;rw[iX] at v;obtain ⟨y,z,rfl⟩:=v;have:=hl y z;rw[bG] at this
    grind [low_nrm]
   simp_all
  ·split at a
   ·rename_i m o;rw[c_] at a;obtain ⟨u,j,b⟩:=a;split at b
    ·rename_i l;simp only[au,aU] at b;obtain ⟨rfl,rfl,rfl⟩:=b;have i:=h _ s _ _ j;have p:Pure P g m u:=⟨i.1,i.2.CQ⟩;exact ⟨i.1,p.lend o l,cP _,λ_ _ _=>rfl⟩
    simp_all
   simp_all
noncomputable def spec{A R:Type}(args:A->List D)(UQ:R->D)(f:A->Option R):List D->Option D:=λds=>open Classical in if h:∃a,args a=ds then (f (Classical.choose h)).map UQ else none
def RA{A R:Type}{args:A->List D}{UQ:R->D}{f:A->Option R}(inj:∀a b,args a=args b->a=b){a:A}{r:R}(h:f a=some r):spec args UQ f (args a)=some (UQ r):=by
 have i:∃b,args b=args a:=⟨a,rfl⟩;unfold spec
 grind
def spec_ok{P:Program}{g:Nat}{A R:Type}{args:A->List D}{UQ:R->D}{f:A->Option R}(H:∀a r,f a=some r->Pure P g (args a) (UQ r)):∀ds r,spec args UQ f ds=some r->Pure P g ds r:=by
 intro ds r h;unfold spec at h;split at h
 ·grind [Option.map_eq_some_iff]
 simp_all
def zN{S:xE}{g:Nat}{F:List D->Option D}{ds a:List D}{Y:ar}{r:D}(b:Wa g S=some F)(hl:(ds.all λd=>d.low 0&&d.plain)=true)(i:ds.map CQ=a)(h:F a=some r)(j:r.low 0=true) :
  CW S g ds Y=some (r,Y,[]):=by
 subst i;simp only[CW,b,hl,if_true,h,aw,j]
def JY{S:xE}{g:Nat}{F:List D->Option D}{ds a b:List D}{Y:ar}{r:D}(i:Wa g S=some F)(hl:(ds.all λd=>d.low 0&&d.plain)=false)(j:ds.mapM (xe Y 0 100)=some a)(l:a.map CQ=b)(h:F b=some r)(m:r.ground=true) :
  CW S g ds Y=some (r,Y,[]):=by
 subst l;simp only[CW,i,hl,b_,cw,j,h,aw,m,if_true]
def Vc:D->D
 |.aV ds=>.aV (ds.map CQ)
 |d=>CQ d
theorem Ej.Vc(d:D):Ej d (Vc d):=by
 intro Y M Fz w v h;unfold Go.Abs.Vc;split
 ·cases h with
  |aV j o s=>
   refine .aV j (by simp_all) (λi d v a b=>?_)
   grind [Ep]
 grind [Ep]
def Ej.Pg{d i:D}(h:Go.Abs.Vc d=i):Ej d i:=h▸Ej.Vc d
theorem rO.nil{P:Program}:rO P []:=λp i=>by grind
def rO.cons{P:Program}{g:Nat}{F:List D->Option D}{S:xE}(h:∀ds r,F ds=some r->Pure P g ds r)(j:rO P S):rO P ((g,F)::S):=by
 intro p i;rcases gy.1 i with rfl | i
 ·exact h
 ·exact j p i
def oP(al:AL)(Y:ar):Nat×Option (Option Nat)->Option D
 |(t,none)=>lk t al
 |(t, some n)=>
  match lk t al with
  |some (.ptr b off sz)=>(nW Y b sz).bind λa=>uL n a off
  |_=>none
def jR:Nat->List D->AL
 |_,[]=>[]
 |i,d::ds=>(i,d)::jR (i+1) ds
theorem Ek:∀(ds:List D)(i t:Nat)(d:D),lk t (jR i ds)=some d->i<=t/\ds[t-i]? = some d:=by
 intro ds;induction ds with
 |nil=>grind [jR,lk]
 |cons x ds ih=>
  intro i t d h;simp only[jR,lk] at h;split at h
  ·simp_all
  grind
def uR{P:Program}{g:FuncId}{fn:Func}{m:kP}{fz:Bool}{ds:List D}{r:D}(hg:P.funcs[g]? = some fn)(s:aW P g=true)(u:il P fn fz=some m)
  (y:ds.length<=m.ntmps)
  (h:Sem P m.body m.ntmps (jR 0 ds) [] λx al Y=>(x=.normal\/x=.ret)/\∃a F,m.results.mapM (oP al Y)=some a/\xe Y 0 100 (one a)=some F/\Ej F r):Pure P g ds r:=by
 refine ⟨s,?_⟩;unfold il at u;split at u
 ·rename_i c hb;split at u
  ·rename_i ac rs h1 h2;simp only[au] at u;subst u;dsimp only at h y;intro M Fz w j R hs G;refine nf hg hb ?_;have A0:ed fn.ntmps [] M Fz w (jR 0 ds) (j++Array.replicate (fn.ntmps-j.size) undef):=by
    refine ⟨by simp_all,λt d K=>?_⟩;obtain ⟨_,h3⟩:=Ek ds 0 t d K;rw[yC5] at h3;have L:t<j.size:=by grind
    exact ⟨j[t],by grind,G t d _ h3 (qB L)⟩
   refine Ng (h c h1 M Fz w { tmps:=j++Array.replicate (fn.ntmps-j.size) undef,defers:=[] } _ R A0 λx al' Y' a' w' M' Fz' hQ hd R' E EV hl=>?_);obtain ⟨hx,a,F,hm,N,O⟩:=hQ;have S:rs.mapM (NZ (xU fn.ntmps al') Y')=some a:=by
    have ad:∀(l:List (Nat×Option (Option Nat))) a,l.mapM (oP al' Y')=some a->l.mapM (NZ (xU fn.ntmps al') Y')=some a:=by
     intro l;induction l with
     |nil=>simp_all
     |cons p l ih=>
      intro a h;rw[US] at h ⊢;cases z:oP al' Y' p with
      |none=>simp_all
      |some d=>
       rw[z] at h;have:NZ (xU fn.ntmps al') Y' p=some d:=by
        obtain ⟨t,o⟩:=p;cases o with
        |none=>exact E.de.2.2 t d z
        |some k=>
         simp only[oP] at z;split at z
         ·rename_i b off sz T;simp only[NZ,E.de.2.2 t _ T];exact z
         simp_all
       rw[this];cases hr:l.mapM (oP al' Y') with
       |none=>simp_all
       |some q=>simp_all
    simp_all
   have U:y_ x=.normal\/y_ x=.ret:=by rcases hx with rfl | rfl <;> simp[y_]
   refine ⟨U,Mk.end hd R' EV λW i A mv=>?_⟩;have X:ed fn.ntmps Y' M' Fz' W al' a'.tmps:=⟨E.1,λt d K=>by obtain ⟨v,q1,q2⟩:=E.2 t d K;exact ⟨v,q1,mv d v q2⟩⟩
   obtain ⟨v,Z,aa⟩:=js (P:=P) i X.de.1 h2 S;obtain ⟨R2,ab⟩:=Rel.forget R i A (λb hb=>by grind);exact ⟨v,Z,v,_,_,rfl,R2,O _ _ _ _ _ (JX i N aa _ _),ab⟩
  simp_all
 simp_all
end Go.Abs
namespace Go.Abs
variable[Gl]
theorem Wu{P:Program}{g:FuncId}{es:List (List C)}{r:D}(p:∀e∈es,e≠[])(s:Pure P g [.c (.cJ true es)] r)(G:es=[]->Pure P g [.c (.lit (.slice none 0 0))] r):Pure P g [.c (.cJ false es)] r:=by
 refine ⟨s.1,λM Fz w b R hs K=>?_⟩;have u:b[0]? = some (b[0]'(by simp_all)):=qB _;have h:=K 0 _ _ rfl u;generalize O:b[0]'(by simp_all)=x at h u;have only:∀d,V [] M Fz w d x->∀(i:Nat) z v,[d][i]? = some z->b[i]? = some v->V [] M Fz w z v:=by grind
 cases h with
 |c A=>
  generalize E:C.cJ false es=y at A;cases A with
  |cJ aB a cap L F c l j m o=>
   simp only[C.cJ.injEq] at E;obtain ⟨rfl,rfl⟩:=E;cases a with
   |some a=>exact s.2 M Fz w b R hs (only _ (.c (.cJ aB (some a) cap (λ_=>rfl) F c l j m o)))
   |none=>
    have N:es=[]:=by simp_all
    subst N;have:=F rfl;subst this;exact (G rfl).2 M Fz w b R hs (only _ (.c (.lit _)))
  |_=>grind
end Go.Abs
end
section
namespace Go.Abs
variable[Gl]
abbrev I(n:Int):D:=.c (.lit (.int .i64 n))
abbrev B(b:Bool):D:=.c (.lit (.bool b))
def lx(al:AL):aT->Option D
 |.t k=>lk k al
 |.k d=>some d
def AU(al:AL)(x:Operand):Option D:=
 match cf x with
 |some o=>lx al o
 |none=>none
def Wi(al:AL):List aT->Option (List D)
 |[]=>some []
 |x :: xs => match lx al x, Wi al xs with
  |some d,some ds=>some (d::ds)
  |_,_=>none
def ff(P:Program)(orc:xg)(n:Nat)(al:AL)(Y:ar)(op:kN)(d:D)(Y1:ar)(w:List Nat):Prop:=∀e,Env n al e->bx P orc op e Y=some (d,Y1,w)
def aD{α:Type}(l:List α)(i:Int):Option α:=if 0<=i/\i<l.length then l[i.toNat]? else none
section
variable{P:Program}{orc:xg}{n:Nat}{al:AL}{Y Y1:ar}{w:List Nat}{d d1 d2:D}{e:List D}
theorem fG(a:Env n al e){x:aT}(h:lx al x=some d):x.ev e=d:=by
 cases x with
 |t k=>simp only[lx] at h;simp[aT.ev,a.2 k d h]
 |k b=>simp only[lx,au] at h;subst h;rfl
theorem Jh(a:Env n al e):∀{xs:List aT}{ds:List D},Wi al xs=some ds->xs.map (aT.ev e)=ds:=by
 intro xs;induction xs with
 |nil=>grind [Wi]
 |cons x xs ih=>grind [Wi,fG]
def Ay{x:aT}(h:lx al x=some d):ff P orc n al Y (.AO x) d Y []:=λe a=>by grind [bx,fG]
def vh{c x y:aT}{b:Bool}(a:lx al c=some (B b))(hb:b=true)(h:lx al x=some d):ff P orc n al Y (.pick c x y) d Y []:=λe i=>by grind [bx,gP,fG]
def qc{c x y:aT}{b:Bool}(a:lx al c=some (B b))(hb:b=false)(h:lx al y=some d):ff P orc n al Y (.pick c x y) d Y []:=λe i=>by grind [bx,gP,fG]
def gR(P:Program)(o:BinOp)(t:TypeId)(x y:Operand)(a b:Value):Option Value:=fE P (do eqGuard o t x y a b;binOp o t a b)
theorem xH{α b:Type}{s:Go.Sem α}{f:α->Go.Sem b}:fE P (s >>= f)=(fE P s).bind λa=>fE P (f a):=by
 induction s with
 |pure a=>rfl
 |program k ih=>exact ih P
 |_=>rfl
theorem dX{o:BinOp}{t ty j:TypeId}{x y:Operand}{a b v:Value}(A:AU al x=some d1)(E:AU al y=some d2)(F:d1.cX = some a)(G:d2.cX = some b)
  (h:gR P o t x y a b=some v) (s:dH v=d):ff P orc n al Y (.gen (.binOp o t x y j) ty) d Y []:=λe K=>by
 subst s;have L:∀{x:Operand}{d:D},AU al x=some d->((cf x).map (aT.ev e))=some d:=by grind [AU,fG]
 have N:((cf x).map (aT.ev e)).bind D.cX = some a:=by grind
 have O:((cf y).map (aT.ev e)).bind D.cX = some b:=by grind
 have:nO P (.binOp o t x y j) ty e=some (dH v):=by
  unfold nO;have i:(Op.binOp o t x y j).operands.toList.all (λx=>(((cf x).map (aT.ev e)).bind D.cX).isSome)=true:=by grind [Go.Op.operands]
  rw[if_pos i];have u:fE P (execOp (λx=>((((cf x).map (aT.ev e)).bind D.cX).getD undef)) { dst:=none,op:=.binOp o t x y j,type:=ty,pos:="",after:=#[],guard:=none })=some (.value v):=by
   have p:∀l m:Value,l=a->m=b->fE P (do let r <-(do eqGuard o t x y l m;binOp o t l m);Go.Sem.pure (Next.value r))=some (.value v):=by intro l m z hb;subst z hb;rw[xH];unfold gR at h;rw[h];rfl
   exact p _ _ (by simp_all) (by simp_all)
  rw[u]
 grind [bx]
theorem Yo{o:UnOp}{t ty:TypeId}{x:Operand}{a v:Value}(u:AU al x=some d1)(y:d1.cX = some a)
  (h:fE P (Op.unary o a)=some v) (l:dH v=d):ff P orc n al Y (.gen (.unOp o t x) ty) d Y []:=λe z=>by
 subst l;have A:((cf x).map (aT.ev e))=some d1:=by grind [AU,fG]
 have m:((cf x).map (aT.ev e)).bind D.cX = some a:=by grind
 have:nO P (.unOp o t x) ty e=some (dH v):=by
  unfold nO;have b:(Op.unOp o t x).operands.toList.all (λx=>(((cf x).map (aT.ev e)).bind D.cX).isSome)=true:=by simp[Op.operands,m]
  rw[if_pos b];have p:fE P (execOp (λx=>((((cf x).map (aT.ev e)).bind D.cX).getD undef)) { dst:=none,op:=.unOp o t x,type:=ty,pos:="",after:=#[],guard:=none })=some (.value v):=by
   have i:∀j:Value,j=a->fE P (do let r <-Op.unary o j;Go.Sem.pure (Next.value r))=some (.value v):=by intro j s;subst s;rw[xH,h];rfl
   exact i _ (by simp_all)
  rw[p]
 grind [bx]
theorem Dd{t b ty:TypeId}{x:Operand}{a v:Value}(u:AU al x=some d1)(y:d1.cX = some a)
  (h:fE P (convert t b a)=some v) (m:dH v=d):ff P orc n al Y (.gen (.convert t b x) ty) d Y []:=λe z=>by
 subst m;have A:((cf x).map (aT.ev e))=some d1:=by grind [AU,fG]
 have o:((cf x).map (aT.ev e)).bind D.cX = some a:=by grind
 have:nO P (.convert t b x) ty e=some (dH v):=by
  unfold nO;have i:(Op.convert t b x).operands.toList.all (λx=>(((cf x).map (aT.ev e)).bind D.cX).isSome)=true:=by simp[Op.operands,o]
  rw[if_pos i];have p:fE P (execOp (λx=>((((cf x).map (aT.ev e)).bind D.cX).getD undef)) { dst:=none,op:=.convert t b x,type:=ty,pos:="",after:=#[],guard:=none })=some (.value v):=by
   have j:∀l:Value,l=a->fE P (do let r <-convert t b l;Go.Sem.pure (Next.value r))=some (.value v):=by intro l s;subst s;rw[xH,h];rfl
   exact j _ (by simp_all)
  rw[p]
 grind [bx]
def op_box{x:aT}{cs:List D}(h:lx al x=some d)(a:d.cells? = some cs)(b:D.ptr Y.length 0 cs.length=d1)(hs:Y++[.cells cs]=Y1):ff P orc n al Y (.box x) d1 Y1 []:=λe i=>by grind [bx,fG]
def Nc{z:List D}(a:D.ptr Y.length 0 z.length=d1)(hs:Y++[.cells z]=Y1):ff P orc n al Y (.alloc z) d1 Y1 []:=λe b=>by grind [bx]
def Ce(al:AL):List D->List (Nat×Nat×aT)->Option (List D)
 |a,[]=>some a
 |a, (o, n, x) :: rest=>
  match (lx al x).bind D.cells? with
  |some b=>if b.length≠n\/o+n > a.length then none else Ce al (put a o b) rest
  |none=>none
theorem Oa(i:Env n al e):∀{ps:List (Nat×Nat×aT)}{cs a:List D},Ce al cs ps=some a->pN e cs ps=some a:=by
 intro ps;induction ps with
 |nil=>intro cs a h;exact h
 |cons p ps ih=>
  intro cs a h;obtain ⟨o,m,x⟩:=p;simp only[Ce] at h;split at h
  ·rename_i r b;rw[c_] at b;obtain ⟨d,j,l⟩:=b;simp only[pN,fG i j,l,eY,aw]
   simp_all
  simp_all
def Ym{z cs:List D}{ps:List (Nat×Nat×aT)}(h:Ce al z ps=some cs):ff P orc n al Y (.build z ps) (.agg cs) Y []:=λe a=>by grind [bx,Oa]
theorem GN{z cs:List D}{aB len:Nat}{ps:List (Nat×Nat×aT)}(h:Ce al (dJ len z) ps=some cs)(a:D.sl Y.length 0 len aB cs.length=d1)(hs:Y++[.cells cs]=Y1):ff P orc n al Y (.jh aB len z ps) d1 Y1 []:=λe b=>by grind [bx,Oa]
def rk{m:Option Nat}{a:aT}{b off sz:Nat}{cs:List D}(h:lx al a=some (.ptr b off sz))(i:nW Y b sz=some cs)(j:uL m cs off=some d):ff P orc n al Y (.load m a) d Y []:=λe l=>by grind [bx,fG]
def Fm{m:Option Nat}{a:aT}{off:Nat}{cs:List C}(h:lx al a=some (.c (.cD cs off)))(b:uL m (cs.map .c) off=some d):ff P orc n al Y (.load m a) d Y []:=λe i=>by grind [bx,fG]
def DQ{m:Nat}{a x:aT}{b off sz:Nat}{cs xs:List D}(h:lx al a=some (.ptr b off sz))(i:nW Y b sz=some cs)(j:lx al x=some d)(l:d.cells? = some xs)(hm:xs.length=m/\off+m<=sz)(hs:Y.set b (.cells (put cs off xs))=Y1) :
  ff P orc n al Y (.store m a x) (.aV []) Y1 [b]:=λe o=>by
 grind [bx,fG]
def Nm{x:aT}{b off sz:Nat}(h:lx al x=some (.ptr b off sz)):ff P orc n al Y (.mM x) (.ptr b off sz) Y []:=λe a=>by grind [bx,fG]
def fw{k:Nat}{neg:Bool}{x:aT}{b:Bool}(h:lx al x=some d)(hb:isNil k d=some b):ff P orc n al Y (.iT k neg x) (B (if neg then !b else b)) Y []:=λe a=>by grind [bx,fG]
def Kg{o:Nat}{x:aT}{b off sz:Nat}(h:lx al x=some (.ptr b off sz)):ff P orc n al Y (.HW o x) (.ptr b (off+o) sz) Y []:=λe a=>by grind [bx,fG]
def op_fldf{o:Nat}{x:aT}{cs:List C}{off:Nat}(h:lx al x=some (.c (.cD cs off))):ff P orc n al Y (.HW o x) (.c (.cD cs (off+o))) Y []:=λe a=>by grind [bx,fG]
def nJ{α:Type}{l:List α}{i:Int}{a:α}(h:aD l i=some a):0<=i/\i<l.length/\l[i.toNat]? = some a:=by grind [aD]
def Zf{α:Type}{aB:Nat}{x i:aT}{nn:Bool}{l:List α}{f:α->List C}{k:Int}{a:α}(h:lx al x=some (.c (.cJ nn (l.map f))))(hi:lx al i=some (I k))(j:aD l k=some a)(hl:(f a).length=aB) :
  ff P orc n al Y (.idx aB none x i) (.c (.cD (f a) 0)) Y []:=λe b=>by
 obtain ⟨p,r,m⟩:=nJ j;have o:BU k (l.map f).length=some k.toNat:=by unfold BU;simp_all
 simp only[bx,fG b h,fG b hi,tO,eY,aw,o,lS,m,Cs,hl,if_true]
def op_len{α:Type}{x:aT}{nn:Bool}{l:List α}{f:α->List C}(h:lx al x=some (.c (.cJ nn (l.map f)))):ff P orc n al Y (.len x) (I l.length) Y []:=λe a=>by grind [bx,KK,fG]
def op_len0{x:aT}(h:lx al x=some (.c (.lit (.slice none 0 0)))):ff P orc n al Y (.len x) (I 0) Y []:=λe a=>by grind [bx,KK,fG]
def EU{x:aT}{i:Nat}{ds:List D}(h:lx al x=some (.aV ds))(a:ds[i]? = some d):ff P orc n al Y (.extract x i) d Y []:=λe b=>by grind [bx,fG]
def op_part{m:Option Nat}{off:Nat}{x:aT}{cs:List D}(h:lx al x=some (.agg cs))(a:uL m cs off=some d):ff P orc n al Y (.part off m x) d Y []:=λe b=>by grind [bx,fG]
def Iu{g:FuncId}{f:aT}{args:List aT}{ds:List D}(a:lx al f=some (.c (.fn (.func g) [] [])))(b:Wi al args=some ds)(h:orc g ds Y=some (d,Y1,w)):ff P orc n al Y (.call f args) d Y1 w:=λe i=>by grind [bx,fG,Jh]
def DN(o:aH)(c:Nat)(blk:Option Nat)(w:List Nat)(lo hi:Nat):eC:={ cat:=c,blk:=blk,wr:=w,dst:=o.dst,rds:=yx o,lo:=lo,hi:=hi }
def Gd(al:AL)(g:Option (Nat×Bool))(b:Bool):Prop:=∀n e,Env n al e->g_ e g=some b
def iq:Gd al none true:=λ_ _ _=>rfl
def gH{t:Nat}{a b:Bool}(h:lk t al=some (B b))(hb:b=a):Gd al (some (t,a)) true:=λn e i=>by simp[g_,i.2 t _ h,hb]
def PP{t:Nat}{a b:Bool}(h:lk t al=some (B b))(hb:b=!a):Gd al (some (t,a)) false:=λn e i=>by simp[g_,i.2 t _ h,hb]
theorem Sm{t:Nat}{a:Bool}(h:lk t al=some (.aV [])):Gd al (some (t,a)) false:=λn e b=>by simp[g_,b.2 t _ h]
def ya(al:AL):kN->Option Nat
 |.load _ x=>match lx al x with | some (.ptr b _ _)=>some b | _=>none
 |_=>none
def FU(al:AL):kN->Bool
 |.load _ x=>(lx al x).isSome
 |_=>true
theorem blk_ok(b:Env n al e){o:aH}(h:FU al o.op=true)(a hi:Nat):(dA o e a hi w).blk=ya al o.op:=by
 obtain ⟨t,op,g⟩:=o;cases op with
 |load m x=>grind [FU,Option.isSome_iff_exists,dA,XB,ya,fG]
 |_=>rfl
def JA(i:Env n al e){o:aH}{b:Bool}(m:∀n e,Env n al e->g_ e o.g=some b)(h:FU al o.op=true)(a hi:Nat):dA o e a hi w=DN o (if b then cat o.op else 0) (ya al o.op) w a hi:=by
 have j:=blk_ok (w:=w) i h a hi;have l:(dA o e a hi w).cat=if b then cat o.op else 0:=by grind [dA]
 unfold DN;rw[<-j,<-l];rfl
def SE(a:Env n al e){t:Nat}(i:t<n)(d:D):Env n ((t,d)::al) (e.set t d):=by
 refine ⟨by simp[a.1],λs j h=>?_⟩;simp only[lk] at h;split at h
 ·rename_i hb;have:=dd hb;simp only[au] at h;subst this h;rw[xAd (by rw[a.1];exact i)]
 ·rename_i hb;have b:t≠s:=λl=>by simp_all
  rw[yCp b];exact a.2 s j h
variable{k:Nat}{os:List aH}{al':AL}{Y':ar}{is:List eC}{t:Nat}{ao:kN}{g:Option (Nat×Bool)}
theorem JU.nil{i:fA}:JU P i k [] n al Y al Y []:=λe j=>⟨e,rfl,j⟩
theorem JU.op{j:fA}(h:ff P (j (some t)) n al Y ao d Y1 w)(s:Gd al g true)(hs:(Nat.blt t n&&FU al ao&&(k == 0 || kC Y Y1 w))=true)(r:JU P j (k-1) os n ((t,d)::al) Y1 al' Y' is) :
  JU P j k (⟨some t,ao,g⟩::os) n al Y al' Y' (DN ⟨some t,ao,g⟩ (cat ao) (ya al ao) w Y.length Y1.length::is):=λe i=>by
 simp only[bG] at hs;obtain ⟨⟨x,z⟩,A⟩:=hs;obtain ⟨E,F,G⟩:=r _ (SE i (tR.mp x) d);refine ⟨E,?_,G⟩;have u:=JA (w:=w) i (o:=⟨some t,ao,g⟩) s z Y.length Y1.length;simp only[if_true,b_,cw] at u;simp only[lL,fo,s n e i,h e i,Cs,nC,A,if_true,F,u]
theorem JU.eff{j:fA}(h:ff P (j none) n al Y ao d Y1 w)(s:Gd al g true)(hs:(FU al ao&&(k == 0 || kC Y Y1 w))=true)(r:JU P j (k-1) os n al Y1 al' Y' is) :
  JU P j k (⟨none,ao,g⟩::os) n al Y al' Y' (DN ⟨none,ao,g⟩ (cat ao) (ya al ao) w Y.length Y1.length::is):=λe i=>by
 simp only[bG] at hs;obtain ⟨x,z⟩:=hs;obtain ⟨A,E,F⟩:=r _ i;refine ⟨A,?_,F⟩;have u:=JA (w:=w) i (o:=⟨none,ao,g⟩) s x Y.length Y1.length;simp only[if_true,b_,cw] at u;simp only[lL,fo,s n e i,h e i,Cs,nC,z,if_true,E,u]
theorem JU.no{j:fA}(s:Gd al g false)(hs:(Nat.blt t n&&FU al ao)=true)(r:JU P j (k-1) os n ((t,.aV [])::al) Y al' Y' is) :
  JU P j k (⟨some t,ao,g⟩::os) n al Y al' Y' (DN ⟨some t,ao,g⟩ 0 (ya al ao) [] Y.length Y.length::is):=λe i=>by
 simp only[bG] at hs;obtain ⟨x,z⟩:=hs;obtain ⟨A,E,F⟩:=r _ (SE i (tR.mp x) (.aV []));refine ⟨A,?_,F⟩;have u:=JA (w:=[]) i (o:=⟨some t,ao,g⟩) s z Y.length Y.length;simp only[if_true,b_,cw] at u;simp only[lL,fo,s n e i,nC,kC,List.all_nil,Bool.or_true,if_true,E,u]
end
end Go.Abs
end
section
namespace Go.Abs
variable[Gl]
abbrev ST(cs:List C):D:=.agg (cs.map .c)
theorem map_inj{α:Type}{f:α->List C}(i:∀{a b:α},f a=f b->a=b){l m:List α}(h:l.map f=m.map f):l=m:=by
 induction l generalizing m with
 |nil=>simp_all
 |cons a l ih => cases m with
  |nil=>simp at h
  |cons b m=>grind
theorem MR:∀{l m:List C},l.map D.c=m.map D.c->l=m:=by
 intro l;induction l with
 |nil=>simp_all
 |cons a l ih => intro m h;cases m with
  |nil=>simp at h
  |cons b m=>grind
def ST_inj{α:Type}{f:α->List C}(i:∀{a b:α},f a=f b->a=b){a b:α}(h:ST (f a)=ST (f b)):a=b:=by grind [MR]
def sZ{al1:AL}:Sub al1 []:=True.intro
section
variable{P:Program}{orc:xg}{n:Nat}{al:AL}{Y Y1:ar}{w:List Nat}{d d1 d2:D}{e:List D}
def op_aidx{α:Type}{len:Nat}{x i:aT}{cs:List D}{l:List α}{f:α->D}{k:Int}{a:α}(h:lx al x=some (.agg cs))(hi:lx al i=some (I k))(j:aD l k=some a)(hl:cs=l.map f)(p:l.length=len) :
  ff P orc n al Y (.Cx 1 len none x i) (f a) Y []:=λe b=>by
 obtain ⟨r,s,m⟩:=nJ j;have o:BU k len=some k.toNat:=by unfold BU;simp_all
 subst hl;simp[bx,fG b h,fG b hi,tO,o,uL,m]
end
end Go.Abs
end
section
namespace Go.Abs
variable[Gl]
section
variable{P:Program}
def zbS{t:TypeId}{d:TypeDesc}(h:P.underlying t=some d):fE P (underlying t)=some d:=by show fE P (match P.underlying t with | some d=>Go.Sem.pure d | none=>_)=_;rw[h];rfl
theorem uA{d:Nat}{xs h:Array Value}{f:Field}{j:List Field}{a b:Value}{r q:Bool}(o:(f.name != "_")=true)(l:fE P (part f.type xs f.offset)=some a)(hb:fE P (part f.type h f.offset)=some b)
  (m:fE P (Op.equalIn d f.type a b)=some r) (p:fE P (Op.eqFields d xs h j)=some q):fE P (Op.eqFields d xs h (f::j))=some (r&&q):=by
 unfold Op.eqFields;have i:f.name≠"_":=by simp_all
 rw[if_pos i,xH,l,aw,xH,hb,aw,xH,m,aw];cases r
 ·rfl
 simp_all
theorem eq_int{d:Nat}{t:TypeId}{k i:IntKind}{a b:Int}(h:P.underlying t=some (.int i)):fE P (Op.equalIn (d+1) t (.int k a) (.int k b))=some (a == b):=by simp only[Op.equalIn];rw[xH,zbS h,aw];simp only[if_true];rfl
theorem Db{d:Nat}{t:TypeId}{a b:Bool}(h:P.underlying t=some .bool):fE P (Op.equalIn (d+1) t (.bool a) (.bool b))=some (a == b):=by simp only[Op.equalIn];rw[xH,zbS h,aw];rfl
theorem eq_agg{d:Nat}{t:TypeId}{xs i:Array Value}{r:Bool}(l:P.underlying t=some (.struct (P.fieldsOf t)))(o:P.stoodInHeld t=false)(h:fE P (Op.eqFields d xs i (P.fieldsOf t).toList)=some r) :
  fE P (Op.equalIn (d+1) t (.agg xs) (.agg i))=some r:=by
 simp only[Op.equalIn];rw[xH,zbS l,aw];dsimp only;rw[xH];show (fE P (Go.Sem.pure P)).bind _=_;simp only[fE,aw,o,b_,cw];rw[xH,<-Array.forIn_toList];generalize (P.fieldsOf t).toList=m at h;clear l;induction m generalizing r with
 |nil=>exact h
 |cons f m ih=>
  simp only[List.forIn_cons,Op.eqFields] at h ⊢;rw[xH];split at h
  ·rename_i j;rw[if_pos j];rw[xH] at h ⊢;cases p:fE P (part f.type xs f.offset) with
   |none=>simp_all
   |some a=>
    rw[p] at h;simp only[aw] at h ⊢;rw[xH] at h ⊢;cases s:fE P (part f.type i f.offset) with
    |none=>simp_all
    |some b=>
     rw[s] at h;simp only[aw] at h ⊢;rw[xH] at h ⊢;cases u:fE P (Op.equalIn d f.type a b) with
     |none=>simp_all
     |some q=>
      rw[u] at h;simp only[aw] at h ⊢;cases q
      ·simp only[Bool.not_false,if_true] at h ⊢;exact h
      ·simp only[Ot,b_,cw] at h ⊢;exact ih h
  ·rename_i j;rw[if_neg j];exact ih h
def bin_eql{t:TypeId}{x y:Operand}{xs a:Array Value}{r:Bool}(hm:P.eqGuardType P.depth t=false)(h:fE P (Op.equalIn 10000 t (.agg xs) (.agg a))=some r):gR P .eql t x y (.agg xs) (.agg a)=some (.bool r):=by
 unfold gR;rw[xH];have b:fE P (eqGuard .eql t x y (.agg xs) (.agg a))=some ():=by simp only[eqGuard,Ot,b_,cw];show fE P (if (!P.eqGuardType P.depth t)=true then Go.Sem.pure () else _)=_;rw[hm];rfl
 rw[b,aw];show fE P (do Go.Sem.pure (Value.bool (<-Op.equal t (.agg xs) (.agg a))))=_;rw[xH];unfold Op.equal Op.maxDepth;rw[h];rfl
def bin_neq{t:TypeId}{x y:Operand}{xs a:Array Value}{r:Bool}(hm:P.eqGuardType P.depth t=false)(h:fE P (Op.equalIn 10000 t (.agg xs) (.agg a))=some r):gR P .neq t x y (.agg xs) (.agg a)=some (.bool (!r)):=by
 unfold gR;rw[xH];have b:fE P (eqGuard .neq t x y (.agg xs) (.agg a))=some ():=by simp only[eqGuard,Ot,b_,cw];show fE P (if (!P.eqGuardType P.depth t)=true then Go.Sem.pure () else _)=_;rw[hm];rfl
 rw[b,aw];show fE P (do Go.Sem.pure (Value.bool (!(<-Op.equal t (.agg xs) (.agg a)))))=_;rw[xH];unfold Op.equal Op.maxDepth;rw[h];rfl
end
end Go.Abs
namespace Go.Abs
variable[Gl]
section
variable{P:Program}{orc:xg}{n:Nat}{al:AL}{Y:ar}{d:D}{e:List D}
def FQ(P:Program)(op:Op)(ty:TypeId)(al:AL):Option D:=
 if op.operands.toList.all (λx=>((AU al x).bind D.cX).isSome) then
  match fE P (execOp (λx=>(((AU al x).bind D.cX).getD undef)) { dst:=none,op:=op,type:=ty,pos:="",after:=#[],guard:=none }) with
  |some (.value v)=>some (dH v)
  |_=>none
 else none
theorem genA_ok{op:Op}{ty:TypeId}(i:∀cs b,op≠.select cs b)(h:FQ P op ty al=some d)(m:Env n al e):nO P op ty e=some d:=by
 unfold FQ at h;split at h
 ·rename_i a;rw[iK] at a;have l:∀x∈op.operands.toList,((cf x).map (aT.ev e)).bind D.cX = (AU al x).bind D.cX:=by
   grind [Option.isSome_iff_exists,Option.bind_eq_some_iff,AU,fG]
  have j:∀x:Operand,(x∈op.operands.toList)->((((cf x).map (aT.ev e)).bind D.cX).getD undef)=(((AU al x).bind D.cX).getD undef):=λx o=>by simp_all
  unfold nO;rw[if_pos (by simp_all)]
  grind [Go.execOp_congr]
 simp_all
theorem gn{c:Call}{ty:TypeId}(h:FQ P (.call c) ty al=some d):ff P orc n al Y (.gen (.call c) ty) d Y []:=λe a=>by simp[bx,genA_ok (λi b=>by simp) h a]
end
end Go.Abs
namespace Go.Abs
variable[Gl]
section
variable{P:Program}{orc:xg}{n:Nat}{al:AL}{Y:ar}{d:D}{e:List D}
def Wn{t:TypeId}{x y:Operand}{a b:Bool}(h:P.underlying t=some .bool):gR P .eql t x y (.bool a) (.bool b)=some (.bool (a == b)):=by unfold gR;rw[xH];show (some ()).bind _=_;rw[aw];show fE P (do Go.Sem.pure (Value.bool (<-Op.equal t (.bool a) (.bool b))))=_;rw[xH];unfold Op.equal Op.maxDepth;rw[Db (d:=9999) h];rfl
def WV{t:TypeId}{x y:Operand}{a b:Bool}(h:P.underlying t=some .bool):gR P .neq t x y (.bool a) (.bool b)=some (.bool (!(a == b))):=by unfold gR;rw[xH];show (some ()).bind _=_;rw[aw];show fE P (do Go.Sem.pure (Value.bool (!(<-Op.equal t (.bool a) (.bool b)))))=_;rw[xH];unfold Op.equal Op.maxDepth;rw[Db (d:=9999) h];rfl
def EY(k:IntKind)(a b:Int):Option Int:=if b=0 then none else some (k.wrap (a.tdiv b))
def rem?(a b:Int):Option Int:=if b=0 then none else some (a.tmod b)
def shr?(k:IntKind)(a b:Int):Option Int:=if b<0 then none else some (a.fdiv (2 ^ min b.toNat k.bits))
def bin_shr{t:TypeId}{x y:Operand}{i j:IntKind}{a b v:Int}(h:shr? i a b=some v):gR P .shr t x y (.int i a) (.int j b)=some (.int i v):=by
 unfold shr? at h;split at h
 ·simp at h
 ·rename_i hb;simp only[au] at h;subst h;unfold gR;rw[xH];show (some ()).bind _=_;rw[aw];simp only[binOp,Op.shift,if_neg hb];rfl
def shl?(k:IntKind)(a b:Int):Option Int:=if b<0 then none else some (k.wrap (a * 2 ^ min b.toNat k.bits))
def bin_shl{t:TypeId}{x y:Operand}{i j:IntKind}{a b v:Int}(h:shl? i a b=some v):gR P .shl t x y (.int i a) (.int j b)=some (.int i v):=by
 unfold shl? at h;split at h
 ·simp at h
 ·rename_i hb;simp only[au] at h;subst h;unfold gR;rw[xH];show (some ()).bind _=_;rw[aw];simp only[binOp,Op.shift,if_neg hb];rfl
def bin_quo{t:TypeId}{x y:Operand}{k:IntKind}{a b v:Int}(h:EY k a b=some v):gR P .quo t x y (.int k a) (.int k b)=some (.int k v):=by
 unfold EY at h;split at h
 ·simp at h
 ·rename_i hb;simp only[au] at h;subst h;unfold gR;rw[xH];show (some ()).bind _=_;rw[aw];simp only[binOp,ne_eq,not_true_eq_false,cw,Op.intDiv,if_neg hb];rfl
def bin_rem{t:TypeId}{x y:Operand}{k:IntKind}{a b v:Int}(h:rem? a b=some v):gR P .rem t x y (.int k a) (.int k b)=some (.int k v):=by
 unfold rem? at h;split at h
 ·simp at h
 ·rename_i hb;simp only[au] at h;subst h;unfold gR;rw[xH];show (some ()).bind _=_;rw[aw];simp only[binOp,ne_eq,not_true_eq_false,cw,Op.intDiv,if_neg hb];rfl
def op_idxA{α:Type}{x i:aT}{b off sz len aB:Nat}{k:Int}{l:List α}{a:α}(h:lx al x=some (.ptr b off sz))(hi:lx al i=some (I k))(j:aD l k=some a)(o:l.length=len)(m:D.ptr b (off+k.toNat * aB) sz=d) :
  ff P orc n al Y (.idx aB (some len) x i) d Y []:=λe p=>by
 subst m;obtain ⟨r,s,u⟩:=nJ j;have v:BU k len=some k.toNat:=by unfold BU;simp_all
 grind [bx,tO,fG]
end
end Go.Abs
end
section
namespace Go.Abs
variable[Gl]
abbrev OS(aB b n:Nat):D:=.sl b 0 n aB (n * aB)
abbrev OB{α:Type}(f:α->List C)(l:List α):Ob:=.cells ((l.flatMap f).map .c)
section
variable{α:Type}{f:α->List C}{aB:Nat}
theorem ib(b:∀a,(f a).length=aB):∀(l:List α),(l.flatMap f).length=l.length * aB:=by
 intro l;induction l with
 |nil=>simp
 |cons a l ih=>grind
theorem flat_at(b:∀a,(f a).length=aB):∀(l:List α)(i:Nat)(a:α),l[i]? = some a->((l.flatMap f).drop (i * aB)).take aB=f a:=by
 intro l;induction l with
 |nil=>simp_all
 |cons x l ih=>
  intro i a h;cases i with
  |zero=>simp_all
  |succ i=>
   simp only[yBu] at h;simp only[yBN];have:(i+1) * aB=(f x).length+i * aB:=by grind
   rw[this,List.drop_append,<-ih i a h,yB8 (by omega),zO]
   simp_all
theorem flat_sub(i:∀a,(f a).length=aB)(l:List α)(b n:Nat):((l.flatMap f).drop (b * aB)).take (n * aB)=((l.drop b).take n).flatMap f:=by
 induction l generalizing b n with
 |nil=>simp
 |cons x l ih=>
  cases b with
  |succ b=>
   simp only[yBN,List.drop_succ_cons];have:(b+1) * aB=(f x).length+b * aB:=by grind
   rw[this,List.drop_append,<-ih b n,yB8 (by omega),zO]
   simp_all
  |zero=>
   cases n with
   |zero=>simp
   |succ n=>
    simp only[yCu,yC2,yBN,List.take_succ_cons];have h:(n+1) * aB=(f x).length+n * aB:=by grind
    rw[h,List.take_append];have:=ih 0 n
    grind
theorem jE{Y:ar}{b:Nat}{l:List α}(i:∀a,(f a).length=aB)(h:Y[b]? = some (OB f l)):nW Y b (l.length * aB)=some ((l.flatMap f).map .c):=by grind [nW,ib]
theorem Rh(b:∀a,(f a).length=aB):∀(l:List α),chunks aB l.length (l.flatMap f)=l.map f:=by
 intro l;induction l with
 |nil=>rfl
 |cons a l ih=>
  simp only[FA,chunks,yBN,rS]
  simp_all
theorem VB{Y:ar}{n k:Nat}:∀(l:List C),(l.map D.c).mapM (fW Y n (k+1))=some l:=by
 intro l;induction l with
 |nil=>rfl
 |cons x l ih=>rw[rS,US,ih];rfl
theorem DE{Y:ar}{b k n:Nat}{l:List α}(i:∀a,(f a).length=aB)(j:0<aB)(h:Y[b]? = some (OB f l))(m:l.length=n):fW Y 0 (k+2) (OS aB b n)=some (.cJ (Nat.blt 0 n) (l.map f)):=by
 subst m;have:fW Y 0 (k+2) (OS aB b l.length)=(if 0<=b/\0<aB/\0+l.length * aB<=l.length * aB then
    match nW Y b (l.length * aB) with
    |some o=>(((o.drop 0).take (l.length * aB)).mapM (fW Y 0 (k+1))).map λr=>C.cJ (Nat.blt 0 l.length) (chunks aB l.length r)
    |none=>none
   else none):=rfl
 rw[this,if_pos ⟨Qf _,j,by omega⟩,jE i h]
 grind [List.take_of_length_le,ib,VB,Rh]
def frz_own{Y:ar}{b n:Nat}{l:List α}(i:∀a,(f a).length=aB)(j:0<aB)(h:Y[b]? = some (OB f l))(m:l.length=n):xe Y 0 100 (OS aB b n)=some (.c (.cJ (Nat.blt 0 n) (l.map f))):=by
 show (fW Y 0 100 (OS aB b n)).map D.c=_
 grind [DE]
def mapM_c{a:Type}{g:D->Option a}{d:D}{ds:List D}{r:a}{rs:List a}(h:g d=some r)(b:ds.mapM g=some rs):(d::ds).mapM g=some (r::rs):=by simp_all
def frz_tup{Y:ar}{ds rs:List D}(h:ds.mapM (nL Y 0 100)=some rs):xe Y 0 100 (.aV ds)=some (.aV rs):=by
 show (ds.mapM (nL Y 0 100)).map D.aV=_
 simp_all
def frz_agg{Y:ar}{ds:List D}{rs:List C}(h:ds.mapM (fW Y 0 100)=some rs):nL Y 0 100 (.agg ds)=some (.agg (rs.map .c)):=by
 show (ds.mapM (fW Y 0 100)).map (λl=>D.agg (l.map .c))=_
 simp_all
def Src(Y:ar)(f:α->List C)(aB:Nat)(d:D)(m:List α):Prop:=KK Y d=some m.length/\zdL Y aB m.length d=some ((m.flatMap f).map .c)
def SrcN(Y:ar)(f:α->List C)(aB:Nat)(d:D)(m:List α):Prop:=KK Y d=some m.length/\∀n,n<=m.length->zdL Y aB n d=some (((m.take n).flatMap f).map .c)
def srcN_own{Y:ar}{b n:Nat}{l:List α}(i:∀a,(f a).length=aB)(h:Y[b]? = some (OB f l))(j:l.length=n):SrcN Y f aB (OS aB b n) l:=by subst j;refine ⟨by grind [KK,jE],λk hk=>?_⟩;show ((nW Y b (l.length * aB)).bind λm=>if aB=aB/\k<=l.length/\0+l.length * aB<=l.length * aB then some ((m.drop 0).take (k * aB)) else none)=_;have:=flat_sub i l 0 k;simp only[yCu,yC2] at this;rw[jE i h,aw,if_pos ⟨rfl,hk,by omega⟩,yC2,<-List.map_take,this]
def Dp{Y:ar}{nn:Bool}{m:List α}(b:∀a,(f a).length=aB):Src Y f aB (.c (.cJ nn (m.map f))) m:=by
 refine ⟨by simp[KK],?_⟩;show (if m.length<=(m.map f).length/\(m.map f).all (λe=>e.length=aB) then some (((m.map f).take m.length).flatten.map D.c) else none)=_
 grind
def src_nil{Y:ar}:Src Y f aB (.c (.lit (.slice none 0 0))) []:=⟨rfl,rfl⟩
def Sn{Y:ar}{b n:Nat}{l:List α}(i:∀a,(f a).length=aB)(h:Y[b]? = some (OB f l))(j:l.length=n):Src Y f aB (OS aB b n) l:=by subst j;refine ⟨by grind [KK,jE],?_⟩;show ((nW Y b (l.length * aB)).bind λm=>if aB=aB/\l.length<=l.length/\0+l.length * aB<=l.length * aB then some ((m.drop 0).take (l.length * aB)) else none)=_;rw[jE i h,aw,if_pos ⟨rfl,cP _,by omega⟩,yC2,yBz (by simp[ib i])]
end
section
variable{P:Program}{orc:xg}{n:Nat}{al:AL}{Y Y1:ar}{d d1 d2:D}{α:Type}{f:α->List C}{aB:Nat}{ac:aQ}{Q:nr->AL->ar->Prop}
def Sem.own(t aB:Nat)(hk:lk t al=some (.c (.lit (.slice none 0 0))))(i:D.sl Y.length 0 0 aB 0=d)(hs:Y++[.cells []]=Y1)(h:Sem P ac n ((t,d)::al) Y1 Q):Sem P ac n al Y Q:=by
 subst i hs;intro c E M Fz w a K R A F;have o:=bF.ph R;have G:=R.ph;have j:∀{d v},V Y M Fz w d v->V (Y++[.cells []]) M Fz w d v:=λh=>h.mono o;have O:ed n (Y++[.cells []]) M Fz w ((t,.sl Y.length 0 0 aB 0)::al) a.tmps:=by
  refine ⟨A.1,λs d hs=>?_⟩;simp only[lk] at hs;split at hs
  ·rename_i hb;have:=dd hb;simp only[au] at hs;subst this hs;obtain ⟨v,u,z⟩:=A.2 t _ hk;refine ⟨v,u,?_⟩;rw[z.ce];exact .sl none 0 0 (by simp) (.cells []) (by simp) (by omega) (λ_=>.inl ⟨rfl,rfl,rfl,rfl,rfl,rfl⟩)
  ·obtain ⟨v,u,z⟩:=A.2 s d hs
   simp_all
 exact h c E M Fz w a K G O λx al' Y' U w' M' Fz' W i X Z E' hl=>F x al' Y' U w' M' Fz' W i X Z (o.trans E' (by simp)) (by grind)
def OT{x:aT}{b k:Nat}{l:List α}(i:∀a,(f a).length=aB)(h:lx al x=some (OS aB b k))(hb:Y[b]? = some (OB f l))(j:l.length=k):ff P orc n al Y (.len x) (I k) Y []:=λe m=>by grind [bx,KK,fG,jE]
def cB{α:Type}(l m:List α):Option (List α):=if l.length+m.length<=1000000 then some (l++m) else none
def uV{l m r:List α}(h:cB l m=some r):l.length+m.length<=1000000/\r=l++m:=by
 unfold cB at h
 simp_all
def wi{i:Nat}{s x:aT}{b k:Nat}{l m r:List α}(F:∀a,(f a).length=aB)(h:lx al s=some (OS aB b k))(hb:Y[b]? = some (OB f l))(hk:l.length=k)(G:lx al x=some d)(hm:Src Y f aB d m)(K:cB l m=some r)
  (v:Nat.ble i 1000=true) (L:OS aB b r.length=d1) (hs:Y.set b (OB f r)=Y1):ff P orc n al Y (.append aB i s x) d1 Y1 [b]:=by
 obtain ⟨o,rfl⟩:=uV K;subst L hs hk;have p:i<=1000:=CH v;have j:Fy (l.length+m.length) i=true:=by have:(l.length+m.length) * i<=1000000 * 1000:=yC3 o p;simp only[Fy,bG,bz];omega
 have y:∀e,Env n al e->bx P orc (.append aB i s x) e Y=(if m.length=0 then some (OS aB b l.length,Y,[b]) else some (.sl b 0 (l.length+m.length) aB (l.length * aB+m.length * aB),Y.set b (.cells ((l.flatMap f).map .c++(m.flatMap f).map .c)),[b])):=by
  intro e u;have:bx P orc (.append aB i s x) e Y=(KK Y d).bind λk=>(zdL Y aB k d).bind λnew=>(nW Y b (l.length * aB)).bind λz=>if aB=aB/\0=0/\l.length * aB=l.length * aB/\Fy (l.length+k) i then
     if k=0 then some (.sl b 0 l.length aB (l.length * aB),Y,[b])
     else some (.sl b 0 (l.length+k) aB (l.length * aB+k * aB),Y.set b (.cells (z++new)),[b])
    else if aB=aB/\0=0/\(l.length+k) * aB<=l.length * aB/\Fy (l.length+k) i then
     if k=0 then some (.sl b 0 l.length aB (l.length * aB),Y,[b])
     else some (.sl b 0 (l.length+k) aB (l.length * aB),Y.set b (.cells (put z (l.length * aB) new)),[b])
    else none:=by
   simp only[bx,fG u h,fG u G];rfl
  rw[this,hm.1,aw,hm.2,aw,jE F hb,aw,if_pos ⟨rfl,rfl,rfl,j⟩]
 intro e u;by_cases A:m.length=0
 ·rw[y e u,if_pos A];have:m=[]:=ZI A;subst this;have E:Y.set b (OB f (l++[]))=Y:=by
   rw[CD];apply VW
   grind
  simp_all
 grind
def Ri{x i:aT}{b m:Nat}{k:Int}{l:List α}{a:α}(p:∀a,(f a).length=aB)(h:lx al x=some (OS aB b m))(hb:Y[b]? = some (OB f l))(j:l.length=m)(hi:lx al i=some (I k))(o:aD l k=some a) :
  ff P orc n al Y (.idx aB none x i) (.ptr b (k.toNat * aB) (m * aB)) Y []:=λe r=>by
 subst j;obtain ⟨s,u,v⟩:=nJ o;have y:BU k l.length=some k.toNat:=by unfold BU;simp_all
 grind [bx,tO,fG,jE]
def Yz{l:List α}{k:Int}{a:α}(b:aD l k=some a):l[k.toNat]? = some a:=(nJ b).2.2
theorem Gw(j:∀a,(f a).length=aB){l:List α}{i o:Nat}{a:α}{m:Option Nat}(p:l[i]? = some a)(h:uL m ((f a).map .c) o=some d):uL m ((l.flatMap f).map .c) (i * aB+o)=some d:=by
 have r:=flat_at j l i a p;have b:(i+1) * aB<=(l.flatMap f).length:=by grind
 rw[OI,Nat.one_mul] at b;cases m with
 |none=>
  simp only[uL,lS,cC] at h ⊢
  grind
 |some m=>
  simp only[uL] at h ⊢;split at h
  ·rename_i s;simp only[vR,j] at s;rw[if_pos (by grind)]
   grind [List.map_drop,List.map_take,List.drop_take,List.drop_drop]
  simp_all
def Wv{m:Option Nat}{x:aT}{b p q o i:Nat}{l:List α}{a:α}(j:∀a,(f a).length=aB)(h:lx al x=some (.ptr b p (q * aB)))(r:p=i * aB+o)(hb:Y[b]? = some (OB f l))(s:l.length=q)(u:l[i]? = some a)
  (v:uL m ((f a).map .c) o=some d):ff P orc n al Y (.load m x) d Y []:=by
 subst s r;exact rk h (jE j hb) (Gw j u v)
theorem ZA(j:∀a,(f a).length=aB){xs:List C}:∀(l:List α)(i o:Nat)(a b:α),l[i]? = some a->o+xs.length<=aB->f b=(f a).take o++xs++(f a).drop (o+xs.length) ->
  (l.flatMap f).take (i * aB+o)++xs++(l.flatMap f).drop (i * aB+o+xs.length)=(l.set i b).flatMap f:=by
 intro l;induction l with
 |nil=>simp_all
 |cons x l ih=>
  intro i o a b h m p;cases i with
  |zero=>grind
  |succ i=>
   simp only[yBu] at h;have u:=j x;have r:(i+1) * aB+o=(f x).length+(i * aB+o):=by grind
   simp only[yBN,List.set_cons_succ];rw[<-ih i o a b h m p,r,List.take_append,yBz (by omega)];have s:(f x).length+(i * aB+o)+xs.length=(f x).length+(i * aB+o+xs.length):=by omega
   rw[s,List.drop_append,yB8 (by omega),zO,yBJ,yBJ];simp
def VA{m:Nat}{x y:aT}{b p q o i:Nat}{l:List α}{a j:α}{xs:List C}(v:∀a,(f a).length=aB)(h:lx al x=some (.ptr b p (q * aB)))(E:p=i * aB+o)(hb:Y[b]? = some (OB f l))(F:l.length=q)(z:l[i]? = some a)
  (G:lx al y=some d) (K:d.cells? = some (xs.map .c)) (hm:xs.length=m) (L:Nat.ble (o+m) aB=true) (N:f j=(f a).take o++xs++(f a).drop (o+xs.length)) {A:List α} (r:l.set i j=A) (hs:Y.set b (OB f A)=Y1) :
  ff P orc n al Y (.store m x y) (.aV []) Y1 [b]:=by
 subst F E r hs hm;have s:o+xs.length<=aB:=CH L;have hi:=(fq.1 z).1;have u:(i+1) * aB<=l.length * aB:=HT _ hi;rw[OI,Nat.one_mul] at u;refine DQ h (jE v hb) G K ⟨by simp,by omega⟩ ?_;congr 2;rw[<-ZA v l i o a j z s N];simp[put]
def jC{len:Nat}{z cs:List D}{ps:List (Nat×Nat×aT)}{l:List α}(h:Ce al (dJ len z) ps=some cs)(hl:cs=(l.flatMap f).map .c)(b:l.length=len)(i:∀a,(f a).length=aB)(j:OS Y.length aB len=OS Y.length aB len)(m:OS aB Y.length len=d1)(hs:Y++[OB f l]=Y1) :
  ff P orc n al Y (.jh aB len z ps) d1 Y1 []:=by
 grind [GN,ib]
theorem Uy{z:α}:∀(k:Nat),dJ k ((f z).map .c)=((List.replicate k z).flatMap f).map .c:=by
 intro k;induction k with
 |zero=>rfl
 |succ k ih=>grind [dJ]
def Dl{α:Type}(z:α)(l c:Int):Option (List α):=if 0<=l/\l<=c/\c<=1000000 then some (List.replicate l.toNat z) else none
def mk0?{α:Type}(c:Int):Option (List α):=if 0<=c/\c<=1000000 then some [] else none
def op_mk0{a:Nat}{zs:List D}{x y:aT}{c:Int}{l:List α}(m:lx al x=some (I 0))(o:lx al y=some (I c))(hm:mk0? c=some l)(i:Nat.ble a 1000=true)
  (p:OS aB Y.length l.length=d1) (hs:Y++[OB f l]=Y1):ff P orc n al Y (.mk aB a zs x y) d1 Y1 []:=λe j=>by
 subst p hs;unfold mk0? at hm;split at hm
 ·rename_i s;simp only[au] at hm;subst hm;have h:a<=1000:=CH i;have b:Fy c.toNat a=true:=by
   have r:c.toNat<=1000000:=by omega
   have:c.toNat * a<=1000000 * 1000:=yC3 r h;simp only[Fy,bG,bz];omega
  simp only[bx,fG j m,fG j o,tO,eY,aw];rw[if_pos ⟨by omega,by omega,b⟩];simp[OS,OB,dJ]
 simp_all
def op_mk{a:Nat}{zs:List D}{x y:aT}{k c:Int}{z:α}{l:List α}(o:lx al x=some (I k))(p:lx al y=some (I c))(r:zs=(f z).map .c)(hm:Dl z k c=some l)(i:Nat.ble a 1000=true)
  (s:OS aB Y.length l.length=d1) (hs:Y++[OB f l]=Y1):ff P orc n al Y (.mk aB a zs x y) d1 Y1 []:=λe j=>by
 subst s hs r;unfold Dl at hm;split at hm
 ·rename_i m;simp only[au] at hm;subst hm;have h:a<=1000:=CH i;have b:Fy c.toNat a=true:=by
   have u:c.toNat<=1000000:=by omega
   have:c.toNat * a<=1000000 * 1000:=yC3 u h;simp only[Fy,bG,bz];omega
  simp only[bx,fG j o,fG j p,tO,eY,aw];rw[if_pos ⟨m.1,m.2.1,b⟩,Uy];simp[OS]
 simp_all
def slice?{α:Type}(l:List α)(a hi:Int):Option (List α):=if 0<=a/\a<=hi/\hi<=l.length then some ((l.take hi.toNat).drop a.toNat) else none
def op_slc{x:aT}{p hi:Option aT}{nn:Bool}{l r:List α}{i j:Int}(y:∀a,(f a).length=aB)(h:lx al x=some (.c (.cJ nn (l.map f))))(b:(match p with | none=>some (I 0) | some o=>lx al o)=some (I i))
  (m:(match hi with | none=>some (I l.length) | some o=>lx al o)=some (I j)) (s:slice? l i j=some r):ff P orc n al Y (.VT aB x p hi) (.c (.cJ nn (r.map f))) Y []:=λe u=>by
 unfold slice? at s;split at s
 ·rename_i z;simp only[au] at s;subst s;have v:oq e (l.map f).length (l.map f).length hi=some j.toNat:=by
   cases hi with
   |none=>simp only[au,I,D.c.injEq,C.lit.injEq,Value.int.injEq,true_and] at m;grind [oq]
   |some o=>
    simp only at m;simp only[oq,fG u m,tO,aw,Sr]
    grind
  have hl:oq e 0 j.toNat p=some i.toNat:=by
   cases p with
   |none=>simp only[au,I,D.c.injEq,C.lit.injEq,Value.int.injEq,true_and] at b;grind [oq]
   |some o=>
    simp only at b;simp only[oq,fG u b,tO,aw,Sr]
    grind
  simp only[bx,fG u h,v,hl,eY,aw]
  simp_all
 simp_all
end
end Go.Abs
namespace Go.Abs
variable[Gl]
end Go.Abs
namespace Go.Abs
variable[Gl]
theorem Yq{m:Nat}:∀(l:List C),D.low.cW m (l.map D.c)=true:=by
 intro l;induction l with
 |nil=>rfl
 |cons x l ih=>grind [D.low.cW,D.low]
end Go.Abs
end
section
namespace Go.Abs
variable[Gl]
def cj(P:Program)(orc:fA)(k:Nat)(os:List aH)(n:Nat)(al:AL)(Y:ar)(Q:AL->ar->List eC->Prop):Prop:=
 ∃al' Y' is,JU P orc k os n al Y al' Y' is/\Q al' Y' is
section
variable{P:Program}{orc:fA}{n k:Nat}{al al1:AL}{Y Y1:ar}{w:List Nat}{d:D}{os:List aH}{t:Nat}{ao:kN}{g:Option (Nat×Bool)}{Q:AL->ar->List eC->Prop}
theorem cj.nil(h:Q al Y []):cj P orc k [] n al Y Q:=⟨al,Y,[],JU.nil,h⟩
theorem cj.op(h:ff P (orc (some t)) n al Y ao d Y1 w)(i:Gd al g true)(hs:(Nat.blt t n&&FU al ao&&(k == 0 || kC Y Y1 w))=true)
  (r:cj P orc (k-1) os n ((t,d)::al) Y1 λal' Y' is=>Q al' Y' (DN ⟨some t,ao,g⟩ (cat ao) (ya al ao) w Y.length Y1.length::is)):cj P orc k (⟨some t,ao,g⟩::os) n al Y Q:=by
 obtain ⟨al',Y',is,j,o⟩:=r;exact ⟨al',Y',_,JU.op h i hs j,o⟩
theorem cj.eff(h:ff P (orc none) n al Y ao d Y1 w)(i:Gd al g true)(hs:(FU al ao&&(k == 0 || kC Y Y1 w))=true)
  (r:cj P orc (k-1) os n al Y1 λal' Y' is=>Q al' Y' (DN ⟨none,ao,g⟩ (cat ao) (ya al ao) w Y.length Y1.length::is)):cj P orc k (⟨none,ao,g⟩::os) n al Y Q:=by
 obtain ⟨al',Y',is,j,o⟩:=r;exact ⟨al',Y',_,JU.eff h i hs j,o⟩
theorem cj.no(i:Gd al g false)(hs:(Nat.blt t n&&FU al ao)=true)
  (r:cj P orc (k-1) os n ((t,.aV [])::al) Y λal' Y' is=>Q al' Y' (DN ⟨some t,ao,g⟩ 0 (ya al ao) [] Y.length Y.length::is)):cj P orc k (⟨some t,ao,g⟩::os) n al Y Q:=by
 obtain ⟨al',Y',is,j,o⟩:=r;exact ⟨al',Y',_,JU.no i hs j,o⟩
theorem Sem.qU{Q:nr->AL->ar->Prop}(i:P.follows .mixedOrders=true)(O:lT P orc)(h:cj P orc 0 os n al Y λal' Y' _=>Q .normal al' Y'):Sem P (.Bb os) n al Y Q:=by
 obtain ⟨al',Y',is,j,o⟩:=h
 grind [Sem.Bb]
theorem Sem.drwQ{Q:nr->AL->ar->Prop}{i:List Nat}{p:Nat}(j:P.follows .mixedOrders=true)(O:lT P orc)
  (h:cj P orc k os n al Y λal' Y' is=>(eT i is&&l_ i p k os.length&&Nat.ble p k)=true/\Q .normal al' Y'):Sem P (.HH os i k p) n al Y Q:=by
 obtain ⟨al',Y',is,o,s,u⟩:=h
 grind [Sem.HH]
theorem Sem.drwNQ{Q:nr->AL->ar->Prop}{i:List Nat}{p:Nat}(j:P.follows .mixedOrders=true)(O:lT P orc)
  (h:cj P orc os.length os n al Y λal' Y' is=>(eT i is&&l_ i p os.length os.length&&Nat.ble p os.length)=true/\Q .normal al' Y'):Sem P (.HH os i k p) n al Y Q:=by
 obtain ⟨al',Y',is,o,s,u⟩:=h
 grind [Sem.drwN]
def shut(n:Nat)(al:AL)(o:aH):Option Nat:=
 match o.g,o.dst with
 |some (t, want), some s=>
  match lk t al with
  |some (.c (.lit (.bool b)))=>if (b != want)&&(Nat.blt s n&&FU al o.op) then some s else none
  |some (.aV [])=>if Nat.blt s n&&FU al o.op then some s else none
  |_=>none
 |_,_=>none
end
end Go.Abs
end
section
namespace Go.Abs
variable[Gl]
def dm{α:Type}:List (Int×α)->Int->Option α
 |[],_=>none
 |(b,a)::l,k=>if b=k then some a else dm l k
def kA{α:Type}:List (Int×α)->Int->α->List (Int×α)
 |[],k,a=>[(k,a)]
 |(b,h)::l,k,a=>if b=k then (b,a)::l else (b,h)::kA l k a
def Qr{α:Type}:List (Int×α)->Int->Nat
 |[],_=>0
 |(a,_)::l,k=>if a=k then 0 else Qr l k+1
def FJ{α:Type}(g:α->D):Nat->List (Int×α)->List (Value×D×Nat)
 |_,[]=>[]
 |i,(k,a)::l=>(.int .i64 k,g a,i)::FJ g (i+1) l
abbrev MB{α:Type}(g:α->D)(l:List (Int×α)):Ob:=.map (FJ g 0 l) l.length
def oel{α b:Type}(o:Option α)(n:b)(s:α->b):b:=match o with | none=>n | some a=>s a
section
variable{α:Type}
theorem EI{m:IntKind}{g:α->D}{k:Int}:∀(l:List (Int×α))(i j:Nat),xM (.int m) (.int .i64 k) (FJ g i l) j=some ((dm l k).map λa=>(j+Qr l k,g a)):=by
 intro l;induction l with
 |nil=>intro i j;rfl
 |cons x l ih=>
  intro i j;obtain ⟨b,a⟩:=x;simp only[FJ,xM,Instr.sameNow,if_true];by_cases h:b=k
  ·grind [dm,Qr]
  ·have hb:(k == b)=false:=by grind
   simp only[hb,ih,dm,Qr,if_neg h]
   grind
theorem UI{g:α->D}{k:Int}{a:α}:∀(l:List (Int×α))(i:Nat)(b:α),dm l k=some b->(FJ g i l).modify (Qr l k) (λp=>(p.1,g a,p.2.2))=FJ g i (kA l k a)/\(kA l k a).length=l.length:=by
 intro l;induction l with
 |nil=>grind [dm]
 |cons x l ih=>
  intro i b h;obtain ⟨j,m⟩:=x;by_cases hk:j=k
  ·grind [Qr,kA,FJ]
  ·simp only[dm,if_neg hk] at h;obtain ⟨o,r⟩:=ih (i+1) b h
   grind [Qr,kA,FJ]
theorem Vt{g:α->D}{k:Int}{a:α}:∀(l:List (Int×α))(i:Nat),dm l k=none->FJ g i l++[(.int .i64 k,g a,i+l.length)]=FJ g i (kA l k a)/\(kA l k a).length=l.length+1:=by
 intro l;induction l with
 |nil=>grind [kA,FJ]
 |cons x l ih=>
  intro i h;obtain ⟨b,j⟩:=x;by_cases hk:b=k
  ·grind [dm]
  ·simp only[dm,if_neg hk] at h;obtain ⟨m,o⟩:=ih (i+1) h;refine ⟨?_,by grind [kA]⟩;simp only[kA,if_neg hk,FJ,JC,FA]
   grind
end
section
variable{P:Program}{orc:xg}{n:Nat}{al:AL}{Y Y1:ar}{d d1 d2:D}{α:Type}
def op_mkmap{g:α->D}(a:D.mp Y.length=d)(hs:Y++[MB g ([]:List (Int×α))]=Y1):ff P orc n al Y .uC d Y1 []:=λe b=>by subst a hs;rfl
def op_look{i:IntKind}{zero:D}{m k:aT}{b:Nat}{g:α->D}{l:List (Int×α)}{x:Int}{ok:Bool}{a:α}(hm:lx al m=some (.mp b))(hb:Y[b]? = some (MB g l))(hk:lx al k=some (I x))(j:dm l x=some a)(o:(if ok then .aV [g a,B true] else g a)=d) :
  ff P orc n al Y (.lookup (.int i) zero m k ok) d Y []:=λe h=>by
 subst o;simp only[bx,fG h hm,fG h hk,kR,HI,hb,eY,aw,EI,j,Cs,Ow]
def WY{h:IntKind}{zero:D}{m k:aT}{b:Nat}{g:α->D}{l:List (Int×α)}{x:Int}{ok:Bool}(hm:lx al m=some (.mp b))(hb:Y[b]? = some (MB g l))(hk:lx al k=some (I x))(i:dm l x=none)(j:(if ok then .aV [zero,B false] else zero)=d) :
  ff P orc n al Y (.lookup (.int h) zero m k ok) d Y []:=λe a=>by
 subst j;simp only[bx,fG a hm,fG a hk,kR,HI,hb,eY,aw,EI,i,yCg,Ow]
theorem op_upd{o:IntKind}{m k x:aT}{b:Nat}{g:α->D}{l:List (Int×α)}{i:Int}{a:α}(hm:lx al m=some (.mp b))(hb:Y[b]? = some (MB g l))(hk:lx al k=some (I i))(p:lx al x=some (g a))(hs:Y.set b (MB g (kA l i a))=Y1) :
  ff P orc n al Y (.yg (.int o) m k x) (.aV []) Y1 [b]:=λe h=>by
 subst hs;simp only[bx,fG h hm,fG h hk,kR,hb,eY,aw,EI,fG h p];cases j:dm l i with
 |some r=>
  obtain ⟨s,u⟩:=UI (g:=g) (a:=a) l 0 r j
  grind
 |none=>
  obtain ⟨s,u⟩:=Vt (g:=g) (a:=a) l 0 j
  grind
def SZ{f:Fn}{first cap:List aT}{a b:List D}(h:Wi al first=some a)(i:Wi al cap=some b):ff P orc n al Y (.Ea f first cap) (.fn f a b) Y []:=λe j=>by grind [bx,Jh]
def Nf{g:FuncId}{f:aT}{args:List aT}{ds a b:List D}{w:List Nat}(h:lx al f=some (.fn (.func g) a b))(i:Wi al args=some ds)(j:orc g (a++ds++b) Y=some (d,Y1,w)):ff P orc n al Y (.call f args) d Y1 w:=λe l=>by grind [bx,fG,Jh]
def Yt{g:FuncId}{f:aT}{args:List aT}{ds:List D}{a b:List C}{w:List Nat}(h:lx al f=some (.c (.fn (.func g) a b)))(i:Wi al args=some ds)(j:orc g (a.map .c++ds++b.map .c) Y=some (d,Y1,w)):ff P orc n al Y (.call f args) d Y1 w:=λe l=>by grind [bx,fG,Jh]
def op_idxS{aB j b off len sz:Nat}{x i:aT}{k:Int}{cs:List D}(h:lx al x=some (.sl b off len aB sz))(hi:lx al i=some (I k))(l:nW Y b sz=some cs)(hk:BU k len=some j)(m:D.ptr b (off+j * aB) sz=d) :
  ff P orc n al Y (.idx aB none x i) d Y []:=λe a=>by
 subst m;simp only[bx,fG a h,fG a hi,tO,eY,aw,l,hk,if_true]
def op_lenS{b off len aB sz:Nat}{x:aT}{cs:List D}(h:lx al x=some (.sl b off len aB sz))(a:nW Y b sz=some cs)(i:I len=d):ff P orc n al Y (.len x) d Y []:=λe j=>by grind [bx,KK,fG]
def Vs{x:aT}{cs:List C}{off:Nat}(h:lx al x=some (.c (.cD cs off))):ff P orc n al Y (.mM x) (.c (.cD cs off)) Y []:=λe a=>by grind [bx,fG]
def TW{x:aT}{f:FuncId}{a b:List C}(h:lx al x=some (.c (.fn (.func f) a b))):ff P orc n al Y (.mM x) (.c (.fn (.func f) a b)) Y []:=λe i=>by grind [bx,fG]
def Im{x:aT}{f:FuncId}{a b:List D}(h:lx al x=some (.fn (.func f) a b)):ff P orc n al Y (.mM x) (.fn (.func f) a b) Y []:=λe i=>by grind [bx,fG]
end
section
variable{P:Program}{orc:xg}{n:Nat}{al:AL}{Y Y1:ar}{d d1 d2:D}{α:Type}{f:α->List C}{aB:Nat}
def Dw{a:Nat}{s x:aT}{m:List α}(h:lx al s=some (.c (.lit (.slice none 0 0))))(p:lx al x=some d)(hm:Src Y f aB d m)(hl:Nat.ble m.length 1000000=true)
  (l:Nat.ble a 1000=true) (r:OS aB Y.length m.length=d1) (hs:Y++[OB f m]=Y1):ff P orc n al Y (.append aB a s x) d1 Y1 []:=by
 subst r hs;have i:a<=1000:=CH l;have j:m.length<=1000000:=CH hl;have b:Fy m.length a=true:=by have:m.length * a<=1000000 * 1000:=yC3 j i;simp only[Fy,bG,bz];omega
 intro e o;have:bx P orc (.append aB a s x) e Y=(KK Y d).bind λk=>(zdL Y aB k d).bind λnew=>if Fy k a then some (.sl Y.length 0 k aB (k * aB),Y++[.cells new],[]) else none:=by simp only[bx,fG o h,fG o p];rfl
 rw[this,hm.1,aw,hm.2,aw,if_pos b]
end
def QG:Nat->C->C
 |n+1,.cJ _ es=>.cJ false (es.map λe=>e.map (QG n))
 |_+1,.lit (.slice none 0 0)=>.cJ false []
 |_,x=>x
theorem RU{Fz:Nat->Prop}{w:World}:∀(n:Nat){x:C}{v:Value},VC Fz w x v->VC Fz w (QG n x) v:=by
 intro n;induction n with
 |zero=>intro x v h;exact h
 |succ n ih=>
  intro x v h;by_cases z:x=.lit (.slice none 0 0)
  ·subst z;cases h;exact .cJ (es:=[]) 0 none 0 (by simp) (λ_=>rfl) (λ_ _=>undef) (by simp) (by simp) (by simp) (by simp)
  cases h with
  | @cJ nn es aB a cap A E c F u y l=>
   have h:=VC.cJ (Fz:=Fz) (w:=w) (nn:=false) (es:=es.map λe=>e.map (QG n)) aB a cap (by simp) E c (λe O=>?_) (by simp_all) (λi j e d m p=>?_) (λi j e d m p=>?_)
   ·rw[vR] at h;exact h
   ·grind
   ·grind
   grind
  |lit v=>
   have:QG (n+1) (.lit v)=.lit v:=by
    unfold QG
    simp_all
   rw[this];exact .lit v
  |cD blk o c r y l=>exact .cD blk o c r y l
  |fn G K m p l L=>exact .fn G K m p l L
  |No blk b s r N hs hk l=>exact .No blk b s r N hs hk l
  |We g=>exact .We g
def nrmY:D->D
 |.c x=>.c (QG 5 x)
 |.agg ds=>.agg (ds.map λd=>match d with | .c x=>.c (QG 5 x) | d=>d)
 |d=>d
def Ej.of_nrmY{d j:D}(h:nrmY d=j):Ej d j:=by
 subst h;intro Y M Fz w v h;unfold nrmY;split
 ·cases h with | c h=>exact .c (RU 5 h)
 ·cases h with
  |agg o z s=>
   refine .agg o (by simp_all) (λi d v a b=>?_);simp only[lS,cC] at a;obtain ⟨u,x,rfl⟩:=a;have:=s i u v x b;split
   ·cases this with | c h=>exact .c (RU 5 h)
   omega
 omega
def ObFz(S F:D):Ob->Ob->Prop
 |.map es c,.map b l=>c=l/\b.length=es.length/\∀(i:Nat) k a n,b[i]? = some (k,a,n)->∃d,es[i]? = some (k,d,n)/\(a=d\/d=S/\a=F)
 |.cells j,.cells h=>h.length=j.length/\∀(i:Nat) a,h[i]? = some a->∃d,j[i]? = some d/\(a=d\/d=S/\a=F)
 |_,_=>False
theorem ObFz.sz{S F:D}{ob ob':Ob}(h:ObFz S F ob ob'):ob'.sz=ob.sz:=by
 cases ob <;> cases ob' <;> simp only[ObFz] at h
 ·exact h.1
 ·rfl
section
variable{P:Program}{Y Y0 Y1:ar}{n:Nat}{al:AL}{ac:aQ}{Q:nr->AL->ar->Prop}{α:Type}{f:α->List C}{aB:Nat}
end
end Go.Abs
end
section
namespace Go.Fl
open Ieee
def log2_lt{n k:Nat}(a:n≠0)(h:n<2 ^ k):n.log2<k:=(Nat.log2_lt a).2 h
def Ss{n:Nat}(a:n≠0):2 ^ n.log2<=n:=Nat.log2_self_le a
def Tc(n:Nat):n<2 ^ (n.log2+1):=Nat.lt_log2_self
theorem lp:double.leastPlace=-1074:=by decide
def can(s:Bool)(n:Nat):Datum:=if n=0 then .number s 0 (-1074) else .number s (n * 2 ^ (52-n.log2)) ((n.log2:Int)-52)
theorem Eb(a:Toward)(s:Bool)(n:Nat):a.cut s n 0=n:=by
 unfold Toward.cut;have h:1 <<< min 0 (n.log2+2)=1:=by simp_all
 have b:n % 1=0:=Nat.mod_one n;simp only[h,Nat.div_one,b];cases a <;> simp
def UM{s:Bool}{n d m:Nat}(a:d<=n.log2+2)(h:n=m * 2 ^ d):Toward.even.cut s n d=m:=by
 unfold Toward.cut;have b:1 <<< min d (n.log2+2)=2 ^ d:=by rw[Nat.min_eq_left a,Nat.one_shiftLeft]
 have i:0<2 ^ d:=Nat.pow_pos (by decide)
 simp_all
theorem Ac{m d:Nat}(h:m≠0):(m * 2 ^ d).log2=m.log2+d:=by
 have b:=Ss h;have i:=Tc m;have a:m * 2 ^ d≠0:=by grind [Nat.mul_ne_zero]
 apply Nat.le_antisymm
 ·have:m * 2 ^ d<2 ^ (m.log2+d+1):=by
   rw[show m.log2+d+1=(m.log2+1)+d by omega,yC0];exact yCh i (Nat.pow_pos (by decide))
  have:=log2_lt a this;omega
 ·have:2 ^ (m.log2+d)<=m * 2 ^ d:=by
   rw[yC0];exact HT _ b
  exact (Nat.le_log2 a).2 this
theorem Ub{s:Bool}{n k:Nat}(a:n≠0)(h:n<2 ^ 53):double.nearest s (n * 2 ^ k) (-(k:Int))=double.nearest s n 0:=by
 have hl:=log2_lt a h;have e:(n * 2 ^ k).log2=n.log2+k:=Ac a;have j:n * 2 ^ k≠0:=Nat.mul_ne_zero a (by simp_all);have fb:double.fractionBits=52:=rfl;have l:max (-(k:Int)+((n * 2 ^ k).log2:Nat)-((52:Nat):Int)) (-1074)=(n.log2:Int)-52:=by omega
 have m:max ((0:Int)+(n.log2:Nat)-((52:Nat):Int)) (-1074)=(n.log2:Int)-52:=by omega
 have o:Toward.even.cut s ((n * 2 ^ k) <<< (-(k:Int)-((n.log2:Int)-52)).toNat) (((n.log2:Int)-52) - -(k:Int)).toNat=n * 2 ^ (52-n.log2):=by
  by_cases hk:k+n.log2<=52
  ·have b:(-(k:Int)-((n.log2:Int)-52)).toNat=52-n.log2-k:=by omega
   have i:(((n.log2:Int)-52) - -(k:Int)).toNat=0:=by omega
   rw[b,i,Eb,Nat.shiftLeft_eq,Nat.mul_assoc,<-yC0]
   grind
  ·have b:(-(k:Int)-((n.log2:Int)-52)).toNat=0:=by omega
   have i:(((n.log2:Int)-52) - -(k:Int)).toNat=k+n.log2-52:=by omega
   rw[b,i,Nat.shiftLeft_zero];refine UM (by omega) ?_;rw[Nat.mul_assoc,<-yC0]
   grind
 have p:Toward.even.cut s (n <<< ((0:Int)-((n.log2:Int)-52)).toNat) (((n.log2:Int)-52)-0).toNat=n * 2 ^ (52-n.log2):=by
  have b:((0:Int)-((n.log2:Int)-52)).toNat=52-n.log2:=by omega
  have i:(((n.log2:Int)-52)-0).toNat=0:=by omega
  grind [Eb,Nat.shiftLeft_eq]
 unfold Format.nearest;rw[if_neg j,if_neg a]
 grind [lp]
def Uo{s:Bool}{n:Nat}(h:n<2 ^ 53):double.read (double.nearest s n 0)=can s n:=by
 by_cases b:n=0
 ·subst b;cases s <;> rfl
 have hl:=log2_lt b h;have p:=Ss b;have r:=Tc n;have fb:double.fractionBits=52:=rfl;have a:max ((0:Int)+(n.log2:Nat)-((52:Nat):Int)) (-1074)=(n.log2:Int)-52:=by omega
 have i:Toward.even.cut s (n <<< ((0:Int)-((n.log2:Int)-52)).toNat) (((n.log2:Int)-52)-0).toNat=n * 2 ^ (52-n.log2):=by
  have F:((0:Int)-((n.log2:Int)-52)).toNat=52-n.log2:=by omega
  have G:(((n.log2:Int)-52)-0).toNat=0:=by omega
  grind [Eb,Nat.shiftLeft_eq]
 have u:4503599627370496<=n * 2 ^ (52-n.log2):=by have:2 ^ n.log2 * 2 ^ (52-n.log2)<=n * 2 ^ (52-n.log2):=HT _ p;rw[<-yC0,show n.log2+(52-n.log2)=52 by omega] at this;omega
 have v:n * 2 ^ (52-n.log2)<9007199254740992:=by have:n * 2 ^ (52-n.log2)<2 ^ (n.log2+1) * 2 ^ (52-n.log2):=yCh r (Nat.pow_pos (by decide));rw[<-yC0,show n.log2+1+(52-n.log2)=53 by omega] at this;omega
 have m:double.infRung=9218868437227405312:=by decide
 have x:double.signWeight=9223372036854775808:=by decide
 have o:double.binade=4503599627370496:=by decide
 unfold can;rw[if_neg b];generalize n * 2 ^ (52-n.log2)=K at i u v ⊢;generalize y:n.log2=L at i a hl ⊢;have z:double.nearest s n 0=double.word s ((L+1022) * 4503599627370496+K):=by
  unfold Format.nearest;rw[if_neg b];simp only[fb,lp,y,a,i,m,o];have A:(((L:Int)-52) - -1074).toNat=L+1022:=by omega
  rw[A,Nat.min_eq_left (by omega)]
 rw[z];generalize N:(L+1022) * 4503599627370496+K=R;have E:R<9223372036854775808:=by omega
 have j:(double.word s R / double.signWeight % 2 == 1)=s:=by
  unfold Format.word;rw[x];cases s
  ·grind
  ·rw[if_pos rfl,Nat.add_div_left _ (by decide),Nat.div_eq_of_lt E];rfl
 have l:double.word s R % double.signWeight=R:=by
  unfold Format.word
  grind
 unfold Format.read;simp only[j,l,o,m,lp]
 grind
def YA(s:Bool)(k:Nat):Datum.number s (0 * 2 ^ k) (-(k:Int))=Datum.number s 0 (-(k:Int)):=by simp_all
def my(s:Bool){n:Nat}(h:n<2 ^ 53):∃k:Nat,can s n=.number s (n * 2 ^ k) (-(k:Int)):=by
 unfold can;split
 ·rename_i e;subst e;exact ⟨1074,(YA s 1074).symm⟩
 ·rename_i a;have:=log2_lt a h
  grind
theorem Pf(s:Bool){n:Nat}(k:Nat)(h:n<2 ^ 53):double.nearest s (n * 2 ^ k) (-(k:Int))=double.nearest s n 0:=by
 by_cases a:n=0
 ·subst a;rw[yCu];unfold Format.nearest
  simp_all
 grind [Ub]
def fl(n:Int):Nat:=FloatKind.f64.nearest n
theorem Xa(n:Int):fl n=double.nearest (decide (n<0)) n.natAbs 0:=rfl
def rK{n:Int}(h:n.natAbs<2 ^ 53):double.read (fl n)=can (decide (n<0)) n.natAbs:=Uo h
def sg(s:Bool)(n:Nat):Int:=if s then -(n:Int) else n
theorem Ie(s:Bool)(n i m:Nat)(h:i<=m):signed s (n * 2 ^ i) (m-i)=sg s n * (2 ^ m:Nat):=by
 have e:(n * 2 ^ i) <<< (m-i)=n * 2 ^ m:=by rw[Nat.shiftLeft_eq,Nat.mul_assoc,<-yC0];simp_all
 unfold signed sg;rw[e]
 grind
def WI(s t:Bool)(a b i j:Nat):Datum.sum (.number s (a * 2 ^ i) (-(i:Int))) (.number t (b * 2 ^ j) (-(j:Int))) =
  some (.number (if sg s a+sg t b=0 then s&&t else decide (sg s a+sg t b<0)) ((sg s a+sg t b).natAbs * 2 ^ (max i j)) (-((max i j:Nat):Int))):=by
 unfold Datum.sum;have hb:min (-(i:Int)) (-(j:Int))=-((max i j:Nat):Int):=by omega
 have p:(-(i:Int) - -((max i j:Nat):Int)).toNat=max i j-i:=by omega
 have r:(-(j:Int) - -((max i j:Nat):Int)).toNat=max i j-j:=by omega
 simp only[hb,p,r,Ie s a i (max i j) (by omega),Ie t b j (max i j) (by omega),<-Int.add_mul];have o:(0:Int)<((2 ^ max i j:Nat):Int):=by have:0<2 ^ max i j:=Nat.pow_pos (by decide);omega
 have z:((sg s a+sg t b) * ((2 ^ max i j:Nat):Int)=0)↔sg s a+sg t b=0:=by grind [Int.mul_eq_zero]
 have l:((sg s a+sg t b) * ((2 ^ max i j:Nat):Int)<0)↔sg s a+sg t b<0:=by
  constructor
  ·intro h;rcases yC6 (sg s a+sg t b) 0 with m | m
   ·exact m
   ·have:=yBT m (Int.le_of_lt o);omega
  ·intro h;exact Int.mul_neg_of_neg_of_pos h o
 grind
def P_(n:Int):sg (decide (n<0)) n.natAbs=n:=by
 unfold sg
 grind
def fl_add{a b:Int}(o:a.natAbs<2 ^ 52)(hb:b.natAbs<2 ^ 52):double.add (fl a) (fl b)=some (fl (a+b)):=by
 have h:a.natAbs<2 ^ 53:=by omega
 have l:b.natAbs<2 ^ 53:=by omega
 obtain ⟨i,hi⟩:=my (decide (a<0)) h;obtain ⟨j,m⟩:=my (decide (b<0)) l;unfold Format.add;rw[rK h,rK l,hi,m,WI,P_,P_];simp only[Cs,Format.write];rw[Pf _ _ (by omega),Xa]
 grind
def fl_sub{a b:Int}(o:a.natAbs<2 ^ 52)(hb:b.natAbs<2 ^ 52):double.sub (fl a) (fl b)=some (fl (a-b)):=by
 have h:a.natAbs<2 ^ 53:=by omega
 have l:b.natAbs<2 ^ 53:=by omega
 obtain ⟨i,hi⟩:=my (decide (a<0)) h;obtain ⟨j,m⟩:=my (decide (b<0)) l;have hs:sg (!decide (b<0)) b.natAbs=-b:=by
  unfold sg
  grind
 unfold Format.sub;rw[rK h,rK l,hi,m];simp only[Datum.opposite];rw[WI,P_,hs];simp only[Cs,Format.write];rw[Pf _ _ (by omega),Xa,<-Int.sub_eq_add_neg]
 grind
def fl_mul{a b:Int}(s:0<=a)(u:0<=b)(l:a.natAbs<2 ^ 53)(hb:b.natAbs<2 ^ 53)(h:(a * b).natAbs<2 ^ 53):double.mul (fl a) (fl b)=some (fl (a * b)):=by
 obtain ⟨i,hi⟩:=my (decide (a<0)) l;obtain ⟨j,o⟩:=my (decide (b<0)) hb;have p:decide (a<0)=false:=by simp_all
 have r:decide (b<0)=false:=by simp_all
 have v:decide (a * b<0)=false:=by grind [Int.mul_nonneg]
 unfold Format.mul;rw[rK l,rK hb,hi,o];simp only[Datum.product,p,r,Cs,Format.write];have m:a.natAbs * 2 ^ i * (b.natAbs * 2 ^ j)=(a * b).natAbs * 2 ^ (i+j):=by grind
 grind [Pf,Xa]
def fl_int{n:Int}(h:n.natAbs<2 ^ 53):(double.read (fl n)).toInt .zero=some n:=by
 obtain ⟨k,hk⟩:=my (decide (n<0)) h;rw[rK h,hk];unfold Datum.toInt Datum.integral;have a:(-(k:Int)).toNat=0:=by omega
 have b:(- -(k:Int)).toNat=k:=by omega
 have c:Toward.zero.cut (decide (n<0)) (n.natAbs * 2 ^ k) k=n.natAbs:=by
  by_cases i:n.natAbs=0
  ·rw[i,yCu];unfold Toward.cut;simp
  ·unfold Toward.cut
   grind [Ac,Nat.one_shiftLeft,Nat.mul_div_cancel]
 simp only[a,b,Nat.shiftLeft_zero,c]
 grind [Ieee.signed]
end Go.Fl
end
section
namespace Go.Abs
variable[Gl]
def isC:D->Bool
 |.c _=>true
 |_=>false
section
variable{Y Y':ar}{M M':Nat->Option Nat}{Fz Fz':Nat->Prop}{w w':World}
def szLe_app(ob:Ob):nB Y (Y++[ob]):=λb o h=>⟨o,by grind,rfl⟩
def Rc(R:Rel Y M Fz w){z:List D}{b:Nat}(hb:Y[b]? = some (.cells z))(hM:M b=none)(hz:z.all isC=true){A:Nat->Option Nat}{j:Nat->Prop}{w1:World}{v:Value}
  (N:Rel (Y++[.cells z]) A j w1) (hv:V (Y++[.cells z]) A j w1 (.ptr Y.length 0 z.length) v) (EV:bF Y M Fz w (Y++[.cells z]) A j w1) :
  ∃ O, Rel Y O j w1 /\ V Y O j w1 (.ptr b 0 z.length) v /\ (∀ x c, M x = some c -> O x = some c) /\ (∀ x, x ≠ b -> O x = M x) /\
   ∀(Y0:ar)(M0:Nat->Option Nat)(Fz0:Nat->Prop)(w0:World),bF Y0 M0 Fz0 w0 Y M Fz w->Y0.length<=Y.length->Y0.length<=b->bF Y0 M0 Fz0 w0 Y O j w1:=by
 have ak:=(fq.1 hb).1;have p:∀x,x<Y.length->A x=M x:=λx u=>by have S:Y[x]? = some Y[x]:=dW u;obtain ⟨U,r,_,F⟩:=EV.keep x _ S;rw[FF u,S] at r;simp only[au] at r;exact F (by rw[<-r])
 have s:(Y++[Ob.cells z])[Y.length]? = some (.cells z):=by simp
 obtain ⟨G,a,l,ha,rfl⟩:∃G a,A Y.length=some G/\a=(⟨G,0,none⟩:Addr)/\v=.pointer (some a):=by
  cases hv with
  |ptr a W h an hv=>rw[s] at h;simp only[au] at h;subst h;obtain ⟨c,r,m⟩:=hv (by simp[Ob.sz]);exact ⟨c,a,r,m,rfl⟩
 have Z:w.heap.size<=G:=by
  rcases EV.lP _ _ l with ⟨b0,h⟩ | h
  ·have hl:=(R.lt h).1;have:=N.inj b0 Y.length G (by rw[p b0 hl];exact h) l;omega
  ·exact h
 have e1:∀x c,(if x=b then A Y.length else M x)=some c->(x=b/\c=G)\/(x≠b/\M x=some c):=λx c h=>by
  split at h
  ·rw[l] at h;simp only[au] at h;exact .inl ⟨‹_›,h.symm⟩
  ·exact .inr ⟨‹_›,h⟩
 have aa:∀x c,M x=some c->x≠b:=λx c h e=>by rw[e,hM] at h;simp at h
 have E:∀x c,M x=some c->(if x=b then A Y.length else M x)=some c:=λx c h=>by rw[if_neg (aa x c h)];exact h
 have ab:∀(i:Nat) d,z[i]? = some d->∃x,d=.c x:=λi d h=>by have:=iK.1 hz d (Av h);cases d <;> first | exact ⟨_,rfl⟩ | simp[isC] at this
 refine ⟨λx=>if x=b then A Y.length else M x,⟨λx c h=>?_,λx x' c h h'=>?_,N.fz,N.gl⟩,?_,E,λx u=>if_neg u,λY0 M0 Fz0 w0 E0 hl av=>?_⟩
 ·rcases e1 x c h with ⟨rfl,rfl⟩ | ⟨u,h⟩
  ·obtain ⟨r,W,o,m,F,h4⟩:=N.blk _ _ l;rw[s] at m;simp only[au] at m;subst m;refine ⟨r,_,o,hb,F,?_⟩;obtain ⟨ad,T,ho,hl,u⟩:=h4;refine ⟨ad,T,ho,hl,λi d v q1 q2=>?_⟩;obtain ⟨x,rfl⟩:=ab i d q1;obtain ⟨q3,q4⟩:=u i _ v q1 q2;refine ⟨?_,q4⟩;cases q3 with
   |c q3=>exact .c q3
  ·obtain ⟨_,ax,o0,k2,_,k4⟩:=R.blk x c h;have K:=(R.lt h).1;obtain ⟨r,W,o,m,F,h4⟩:=N.blk x c (by rw[p x K];exact h);rw[FF K] at m;refine ⟨r,W,o,m,F,?_⟩;rw[k2] at m;simp only[au] at m;subst m;refine (ca.down (szLe_app (.cells z)) h4 k4).cut.sub nB.refl (λy c' X=>?_);unfold cZ at X;split at X
   ·rename_i af;rw[p y af] at X;exact E y c' X
   ·simp at X
 ·rcases e1 x c h with ⟨g1,g2⟩ | ⟨_,g2⟩ <;> rcases e1 x' c h' with ⟨g3,g4⟩ | ⟨_,g4⟩
  ·rw[g1,g3]
  ·have:=(R.lt g4).2;omega
  ·have:=(R.lt g2).2;omega
  ·exact R.inj x x' c g2 g4
 ·subst ha;exact .ptr _ (.cells z) hb (cP _) λ_=>⟨G,by rw[if_pos rfl];exact l,rfl⟩
 ·have L:=E0.trans EV hl;refine ⟨L.size,L.frame,λx c h=>?_,L.fz,L.nF,L.qe,λx W u=>?_,L.out⟩
  ·rcases e1 x c h with ⟨rfl,rfl⟩ | ⟨_,h⟩
   ·exact L.lP _ _ l
   ·exact E0.lP _ _ h
  ·obtain ⟨U,r,m,F⟩:=E0.keep x W u;have K:=(fq.1 u).1;exact ⟨U,r,m,λe=>by rw[if_neg (by omega)];exact F e⟩
end
section
variable{P:Program}{orc:fA}{ops:Array Oper}{os:List aH}{q n0:Nat}{env:Nat->List D}{sg:Nat->ar}{wrs:Nat->List Nat}
variable{M0:Nat->Option Nat}{Fz0:Nat->Prop}{w0:World}{tP:List Deferred}
def nQ(os:List aH)(q:Nat):Prop:=∀i,i<q->∃t ao,os[i]? = some ⟨some t,ao,none⟩/\((∃z,ao=.alloc z/\z.all isC=true)\/(∃x,ao=.AO x)\/∃n x,ao=.load n x)
def Nl{P:Program}{orc:xg}{ao:kN}(h:(∃x,ao=.AO x)\/∃n x,ao=.load n x){env:List D}{Y Y1:ar}{d:D}{wr:List Nat}(a:bx P orc ao env Y=some (d,Y1,wr)) :
  Y1=Y/\wr=[]/\∀aC:ar,(∀b off sz,XB ao env=.ptr b off sz->aC[b]? = Y[b]?)->bx P orc ao env aC=some (d,aC,[]):=by
 rcases h with ⟨x,rfl⟩ | ⟨n,x,rfl⟩
 ·simp only[bx,au,aU] at a;obtain ⟨rfl,rfl,rfl⟩:=a;exact ⟨rfl,rfl,λ_ _=>rfl⟩
 ·simp only[bx] at a;split at a
  ·rename_i b off sz i;simp only[eY,c_,au,aU] at a;obtain ⟨j,m,v,l,rfl,rfl,rfl⟩:=a;refine ⟨rfl,rfl,λaC h=>?_⟩;have e:=h b off sz i
   grind [nW,bx]
  ·rename_i j off i;simp only[eY,c_,au,aU] at a;obtain ⟨v,l,rfl,rfl,rfl⟩:=a;exact ⟨rfl,rfl,λaC _=>by grind [bx]⟩
  simp_all
def nQ.step(H:nQ os q)(T:Tr P orc ops os 0 n0 env sg wrs){i:Nat}(hi:i<q):∃t ao d,os[i]? = some ⟨some t,ao,none⟩/\env (i+1)=nC (env i) (some t) d/\wrs i=[]/\bx P (orc (some t)) ao (env i) (sg i)=some (d,sg (i+1),[]) /\
  ((∃z,ao=.alloc z/\z.all isC=true/\d=.ptr (sg i).length 0 z.length/\sg (i+1)=sg i++[.cells z])\/(((∃x,ao=.AO x)\/∃n x,ao=.load n x)/\sg (i+1)=sg i)):=by
 obtain ⟨t,ao,u,j⟩:=H i hi;have:=T.step i _ u;simp only[fo,g_,cC] at this;obtain ⟨⟨d,s1,w1⟩,o,s⟩:=this;simp only[aU] at s;obtain ⟨E,rfl,rfl⟩:=s;rcases j with ⟨z,rfl,F⟩ | j
 ·have A:=o;simp only[bx,au,aU] at A
  grind
 ·obtain ⟨G,K,_⟩:=Nl j o
  grind
theorem nQ.wr(H:nQ os q)(T:Tr P orc ops os 0 n0 env sg wrs){i:Nat}(hi:i<q):wrs i=[]:=by obtain ⟨_,_,_,_,_,h,_⟩:=H.step T hi;exact h
theorem nQ.blk(H:nQ os q)(T:Tr P orc ops os 0 n0 env sg wrs){i t:Nat}{z:List D}(hi:i<q)(j:os[i]? = some ⟨some t,.alloc z,none⟩):z.all isC=true/\env (i+1)=nC (env i) (some t) (.ptr (sg i).length 0 z.length)/\sg (i+1)=sg i++[.cells z]:=by
 obtain ⟨o,ao,d,s,u,_,_,x⟩:=H.step T hi
 simp_all
structure Lt (os:List aH) (q:Nat) (env:Nat->List D) (sg:Nat->ar) (M0:Nat->Option Nat) (Fz0:Nat->Prop) (w0:World) (tP:List Deferred) (S:Nat->Prop) (k:Nat) (M:Nat->Option Nat) (Fz:Nat->Prop) (w:World) (a:Act):Prop where
 TU:a.tmps.size=(env k).length
 tP:a.defers=tP
 rel:Rel (sg k) M Fz w
 tmp:∀t d v,(∀i x,i<q->os[i]? = some x->x.dst=some t->S i)->(env k)[t]? = some d->a.tmps[t]? = some v->V (sg k) M Fz w d v
 non:∀i t z,i<q->os[i]? = some ⟨some t,.alloc z,none⟩->¬S i->M (sg i).length=none
 evo:bF (sg 0) M0 Fz0 w0 (sg k) M Fz w
def Inv.late{S:Nat->Prop}{M:Nat->Option Nat}{Fz:Nat->Prop}{w:World}{a:Act}(I:Inv os n0 env sg wrs M0 Fz0 w0 tP S M Fz w a)(T:Tr P orc ops os 0 n0 env sg wrs)(O:lT P orc)(H:nQ os q)
  (hS:∀i,q<=i->i<n0->S i) (hq:q<=n0) (K:∀b,M0 b≠none->b<(sg 0).length):Lt os q env sg M0 Fz0 w0 tP S n0 M Fz w a:=by
 have W:=T.le;refine ⟨by rw[I.TU,T.BO O T.le],I.tP,⟨λb c h=>?_,I.inj,I.fz,Gl.mono I.Bc.fz I.gl0⟩,λt d v hc u x=>?_,λi t z hi R hn=>?_,?_⟩
 ·obtain ⟨u,x,s⟩:=I.own b c h;have hb:b<(sg n0).length:=by
   rcases s with ⟨s,_⟩ | ⟨j,U,_,_,s⟩
   ·exact FG s (T.cI O (by omega) T.le)
   ·exact FG s (T.cI O (by omega) T.le)
  have A:(sg n0)[b]? = some (sg n0)[b]:=dW hb;obtain ⟨o,X,Z⟩:=I.blk b c h n0 _ (cP _) A (λi hi hw=>⟨λ_=>by
   rcases rU i q with h | h
   ·rw[H.wr T h] at hw
    grind
   simp_all,λ_=>hi⟩)
  simp_all
 ·exact I.tmp t n0 (cP _) (λi o hi R hd=>⟨λ_=>by grind,λ_=>hi⟩) d v u x
 ·cases E:M (sg i).length with
  |none=>rfl
  |some c=>
   obtain ⟨_,_,s⟩:=I.own _ c E;have l1:=T.cI O (m:=0) (m':=i) (by omega) (by omega);have l2:(sg (i+1)).length=(sg i).length+1:=by rw[(H.blk T hi R).2.2];simp
   rcases s with ⟨s,_⟩ | ⟨j,U,aa,X,Z⟩
   ·omega
   ·rcases Wh j i with h | h | h
    ·have:=T.cI O (m:=j+1) (m':=i) (by omega) (by omega);omega
    ·simp_all
    ·have:=T.cI O (m:=i+1) (m':=j) (by omega) (by omega);omega
 ·refine ⟨I.Bc.size,I.Bc.frame,λb c h=>?_,I.Bc.fz,λc h=>?_,I.Bc.qe,λb ob hb=>?_,I.Bc.out⟩
  ·rcases I.Bc.lP b c h with h | h
   ·grind
   omega
  ·rcases I.Bc.nF c h with h | h
   ·simp_all
   omega
  ·obtain ⟨F,u,x⟩:=T.sz O (by omega) (cP n0) b ob hb;refine ⟨F,u,by omega,λ_=>?_⟩;have ab:=(fq.1 hb).1;cases E:M0 b with
   |some c=>exact I.Bc.ext b c E
   |none=>
    cases G:M b with
    |none=>rfl
    |some c=>
     obtain ⟨_,_,s⟩:=I.own b c G;rcases s with ⟨_,s⟩ | ⟨j,U,_,s,_⟩
     ·simp_all
     ·have:=T.cI O (m:=0) (m':=j) (by omega) (by omega);omega
theorem nQ.off(H:nQ os q)(T:Tr P orc ops os 0 n0 env sg wrs){i k t:Nat}{z:List D}(hi:i<q)(o:os[i]? = some ⟨some t,.alloc z,none⟩)(j:i<k)(hk:k<os.length)(hb:¬CN ops i k):(sg i).length∉wrs k:=by
 obtain ⟨y,s⟩:=T.at hk;rcases T.pair i k _ y j o s with h | h
 ·simp_all
 ·obtain ⟨_,_,_,_,_,u,_⟩:=gB h;have x:(sg (i+1)).length=(sg i).length+1:=by rw[(H.blk T hi o).2.2];simp
  grind [dA]
def nQ.look(T:Tr P orc ops os 0 n0 env sg wrs){i k t b off sz:Nat}{ao:kN}(o:os[i]? = some ⟨some t,ao,none⟩)(hl:(∃x,ao=.AO x)\/∃n x,ao=.load n x)(u:XB ao (env i)=.ptr b off sz)(j:i<k)(hk:k<os.length)(hb:¬CN ops i k):b∉wrs k:=by
 obtain ⟨y,s⟩:=T.at hk;rcases T.pair i k _ y j o s with h | h
 ·simp_all
 ·obtain ⟨_,_,_,z,_⟩:=gB h
  grind [XB,safe,dA,g_,cat]
theorem JG{a:Act}{b:Option Nat}{v i:Value}{t:Nat}(h:(a.put b v).tmps[t]? = some i):(b=some t/\i=v)\/(b≠some t/\a.tmps[t]? = some i):=by
 cases b with
 |none=>exact .inr ⟨by simp,h⟩
 |some s=>
  simp only[Act.put,yAW] at h
  grind
def ET{a:Act}{b:Option Nat}{v:Value}:(a.put b v).tmps.size=a.tmps.size:=by cases b <;> simp[Act.put]
def JF{a:Act}{b:Option Nat}{v:Value}:(a.put b v).defers=a.defers:=by cases b <;> rfl
theorem Tj(O:lT P orc)(T:Tr P orc ops os 0 n0 env sg wrs)(H:nQ os q)(hq:q<=n0)(b4:∀i j,q<=i->i<j->n0<=j->j<os.length->CN ops i j)
  (hg:∀(i:Nat) x,os[i]? = some x->x.g=none) (a8:∀(i j:Nat) x y t,i<q->i<j->os[i]? = some x->os[j]? = some y->x.dst=some t->y.dst≠some t) (a9:∀(i j:Nat) x y t,i<q->i<=j->os[i]? = some x->os[j]? = some y->y.dst=some t->t∉yx x)
  (b5:∀listed:Array Bool,listed.size=ops.size->Region.ready .any ops listed=[]->∀i,i<ops.size->gD listed i) {Q:Exit->Act->World->Prop}
  (hQ:∀a' w' M' Fz',a'.defers=tP->Rel (sg os.length) M' Fz' w'->dB (sg os.length) M' Fz' w' (env os.length) a'.tmps->bF (sg 0) M0 Fz0 w0 (sg os.length) M' Fz' w'->Q .normal a' w') :
  ∀ (K : Nat) (listed : Array Bool) (k : Nat) (M : Nat -> Option Nat) (Fz : Nat -> Prop) (w : World) (a : Act), listed.size = ops.size -> n0 <= k -> k <= os.length -> (∀ i, q <= i -> i < ops.size -> (gD listed i ↔ i < k)) -> gg ops (gD listed) ->
   Vv ops.size listed<=K->Lt os q env sg M0 Fz0 w0 tP (gD listed) k M Fz w a->wpAny P .any ops Q K listed a w:=by
 have c2:=T.len;have fin:∀(listed:Array Bool)(k:Nat)(M:Nat->Option Nat)(Fz:Nat->Prop)(w:World)(a:Act),n0<=k->k<=os.length->(∀i,q<=i->i<ops.size->(gD listed i↔i<k))->(∀i,i<ops.size->gD listed i) ->
   Lt os q env sg M0 Fz0 w0 tP (gD listed) k M Fz w a->Q .normal a w:=λlisted k M Fz w a hk r hS aa L=>by
  have b6:k=os.length:=by grind
  subst b6;exact hQ a w M Fz L.tP L.rel ⟨L.TU,λt d v h1 h2=>L.tmp t d v (λi x hi _ _=>aa i (by omega)) h1 h2⟩ L.evo
 intro K;induction K with
 |zero=>
  intro listed k M Fz w a bb hk r hS hC hf L;have aa:=ug (N:=ops.size) (listed:=listed) (by omega);refine ⟨?_,fin listed k M Fz w a hk r hS aa L⟩;cases hr:Region.ready .any ops listed with
  |nil=>rfl
  |cons j l=>
   have hm:j∈Region.ready .any ops listed:=by simp_all
   rw[mem_ready] at hm
   grind [gD]
 |succ K ih=>
  intro listed k M Fz w a bb hk r hS hC hf L;refine ⟨λhr=>fin listed k M Fz w a hk r hS (b5 listed bb hr) L,λj hj=>?_⟩;rw[mem_ready] at hj;obtain ⟨h1,o,ho,b7⟩:=hj;have b8:j<ops.size:=(CK.1 ho).1;have ak:¬gD listed j:=by grind [gD]
  have av:∀o' e,ops[j]? = some o'->e∈o'.after->Region.binds .any e=true->gD listed e.on:=λo' e u he b9=>by rw[ho] at u;simp only[au] at u;subst u;exact b7 e he b9
  have a1:gg ops (gD (listed.setIfInBounds j true)):=by
   intro i o' e hi u he hb;rw[Kv (by omega)] at hi ⊢;rcases hi with hi | rfl
   ·exact .inl (hC i o' e hi u he hb)
   simp_all
  have hu:=CY (N:=ops.size) (listed:=listed) (k:=j) (by omega) b8 ak;have cg:∀i,i<q->¬gD listed i->¬CN ops i j:=λi hi hn hb=>hn (hb.ready hC av);rcases rU j q with Z | Z
  ·
   obtain ⟨t,ao,d,E,ab,bc,ax,a2⟩:=H.step T Z;obtain ⟨o',u,F⟩:=T.comp j _ E;rw[ho] at u;simp only[au] at u;subst u;unfold bp at F;split at F
   ·rename_i g p a5 A;simp only[au,aH.mk.injEq] at F;obtain ⟨bd,rfl,rfl⟩:=F;have same:∀s,s∈yx (⟨some t,p,none⟩:aH)->(env k)[s]? = (env j)[s]?:=λs hs=>
     T.Al O (m:=j) (m':=k) (t:=s) (by omega) r (λi x hi _ X hd=>a9 j i _ x s Z hi E X hd hs)
    have hE:dB (sg k) M Fz w (jM (yx ⟨some t,p,none⟩) (env k)) a.tmps:=by
     refine ⟨by grind [Lt.TU,jM],λi d v h1 h2=>?_⟩;rw[pZ] at h1;simp only[cC] at h1;obtain ⟨d0,h3,h4⟩:=h1;by_cases ht:(yx ⟨some t,p,none⟩).contains i=true
     ·rw[if_pos ht] at h4;subst h4;refine L.tmp i d0 v (λm x hm X hd=>?_) h3 h2;rcases rU m j with be | be
      ·rcases T.pair m j x _ be X E with hb | hb
       ·grind
       ·obtain ⟨h5,_⟩:=gB hb;exact absurd (show i∈yx ⟨some t,p,none⟩ by simp_all) (h5 i hd)
      grind
     ·rw[if_neg ht] at h4;subst h4;exact .any v
    have S:=ow (ops:=ops) (o:=o) (g:=none) (b:=true) hE a5 rfl;have a0:∀R d' v',(env k)[R]? = some d'->a.tmps[R]? = some v'->R≠t->(∀i x,i<q->os[i]? = some x->x.dst=some R->gD (listed.setIfInBounds j true) i)->V (sg k) M Fz w d' v':=λR d' v' q1 q2 e hc=>by
     refine L.tmp R d' v' (λi x hi X hd=>?_) q1 q2;rcases (Kv (by omega) i).1 (hc i x hi X hd) with h | h
     ·exact h
     grind
    have c3:∀d',(env k)[t]? = some d'->d'=d:=λd' q1=>by
     have ch:=T.Al O (m:=j+1) (m':=k) (t:=t) (by omega) r (λi x hi _ X hd=>a8 j i _ x t Z (by omega) E X rfl hd);rw[ch,ab] at q1;simp only[nC,yBM,if_true] at q1
     simp_all
    have bh:∀i,q<=i->i<ops.size->(gD (listed.setIfInBounds j true) i↔i<k):=λi hi bi=>by rw[Kv (by omega),hS i hi bi];omega
    unfold wpOp;rw[ho];simp only[S,if_true];left;rcases a2 with ⟨z,rfl,hz,rfl,an⟩ | ⟨a6,an⟩
    ·refine Ni (O o.dst) L.rel hE A rfl _ λv w1 M1 ad R1 hv EV _=>?_;have ck:(sg j).length<(sg (j+1)).length:=by grind
     have bk:=T.VN O (m:=j+1) (m':=k) (b:=(sg j).length) (by omega) r ck (λi hi a7 hw=>by
      rcases rU i q with h | h
      ·rw[H.wr T h] at hw
       grind
      ·exact H.off T Z E (by omega) (by omega) (λhb=>ak (hb.in hC ((hS i h (by omega)).2 a7))) hw)
     rw[an,Np (cP _),yCw,xF] at bk;obtain ⟨M2,R2,c4,bl,bt,ax⟩:=Rc L.rel bk (L.non j t z Z E ak) hz R1 hv EV;refine ih (listed.setIfInBounds j true) k M2 ad w1 _ (by grind) hk r bh a1 (by omega) ⟨by rw[ET,L.TU],by rw[JF,L.tP],R2,λR d v' hc q1 q2=>?_,λi R z' hi G hn=>?_,?_⟩
     ·rcases JG q2 with ⟨e,rfl⟩ | ⟨e,q2⟩
      ·grind
      ·exact (a0 R d v' q1 q2 (λh=>e (by grind)) hc).sub nB.refl bl EV.fz EV.qe
     ·have cm:i≠j:=λe=>hn ((Kv (by omega) i).2 (.inr e));have c5:(sg (i+1)).length=(sg i).length+1:=by rw[(H.blk T hi G).2.2];simp
      have c6:(sg (j+1)).length=(sg j).length+1:=by grind
      rw[bt _ (by
       intro e;rcases Nat.lt_or_gt_of_ne cm with h | h
       ·have:=T.cI O (m:=i+1) (m':=j) (by omega) (by omega);omega
       ·have:=T.cI O (m:=j+1) (m':=i) (by omega) (by omega);omega)]
      exact L.non i R z' hi G (λh=>hn ((Kv (by omega) i).2 (.inl h)))
     ·exact ax _ _ _ _ L.evo (T.cI O (by omega) r) (T.cI O (by omega) (by omega))
    ·have bu:bx P (orc (some t)) p (env j) (sg j)=some (d,sg j,[]):=by grind
     have U:∀Y,bx P (orc (some t)) p (jM (yx ⟨some t,p,none⟩) (env k)) Y=bx P (orc (some t)) p (env j) Y:=λY=>by
      refine yI (mj A) (λx X=>?_);have bv:∀n,x=.t n->n∈yx (⟨some t,p,none⟩:aH):=λn hn=>by
       subst hn;simp only[yx,kL,List.mem_filterMap]
       grind
      rw[Ad bv];cases x with
      |k d=>rfl
      |t n=>simp only[aT.ev,same n (bv n rfl)]
     have bw:bx P (orc o.dst) p (jM (yx ⟨some t,p,none⟩) (env k)) (sg k)=some (d,sg k,[]):=by
      rw[bd,U];refine (Nl a6 bu).2.2 (sg k) (λb off sz X=>?_);by_cases W:b<(sg j).length
      ·exact T.VN O (m:=j) (m':=k) (b:=b) (by omega) r W (λi hi a7 hw=>by
        rcases rU i q with h | h
        ·rw[H.wr T h] at hw
         grind
        ·exact nQ.look T E a6 X (by omega) (by omega) (λhb=>ak (hb.in hC ((hS i h (by omega)).2 a7))) hw)
      ·exfalso;rcases a6 with ⟨x,rfl⟩ | ⟨n,x,rfl⟩
       ·grind [XB]
       grind [XB,bx,nW]
     refine Ni (O o.dst) L.rel hE A bw _ λv w1 M1 ad R1 hv EV _=>?_;refine ih (listed.setIfInBounds j true) k M1 ad w1 _ (by grind) hk r bh a1 (by omega) ⟨by rw[ET,L.TU],by rw[JF,L.tP],R1,λR d' v' hc q1 q2=>?_,λi R z' hi G hn=>?_,?_⟩
     ·rcases JG q2 with ⟨e,rfl⟩ | ⟨e,q2⟩
      ·grind
      ·exact (a0 R d' v' q1 q2 (λh=>e (by grind)) hc).mono EV
     ·have W:(sg i).length<(sg k).length:=by
       have h1:(sg (i+1)).length=(sg i).length+1:=by rw[(H.blk T hi G).2.2];simp
       have:=T.cI O (m:=i+1) (m':=k) (by omega) r;omega
      obtain ⟨co,k1,_,k3⟩:=EV.keep _ _ (dW W);rw[dW W] at k1;simp only[au] at k1;rw[k3 (by grind)];exact L.non i R z' hi G (λh=>hn ((Kv (by omega) i).2 (.inl h)))
     ·exact L.evo.trans EV (T.cI O (by omega) r)
   simp_all
  ·have c7:k<=j:=by
    simp_all
   have cp:j=k:=by
    rcases rU k j with h | h
    ·have hb:=b4 k j (by omega) h (by omega) (by omega);have:=(hS k (by omega) (by omega)).1 (hb.ready hC av);omega
    ·omega
   subst cp;obtain ⟨ao,E⟩:=T.at (i:=j) (by omega);obtain ⟨o',u,F⟩:=T.comp j ao E;rw[ho] at u;simp only[au] at u;subst u;have af:=T.step j ao E;have b0:=hg j ao E;have hE:dB (sg j) M Fz w (jM (yx ao) (env j)) a.tmps:=by
    refine ⟨by grind [Lt.TU,jM],λi d v h1 h2=>?_⟩;rw[pZ] at h1;simp only[cC] at h1;obtain ⟨d0,h3,h4⟩:=h1;by_cases ht:(yx ao).contains i=true
    ·rw[if_pos ht] at h4;subst h4;refine L.tmp i d0 v (λm x hm X hd=>?_) h3 h2;rcases T.pair m j x ao (by omega) X E with hb | hb
     ·grind
     ·obtain ⟨h5,_⟩:=gB hb;exact absurd (show i∈yx ao by simp_all) (h5 i hd)
    ·rw[if_neg ht] at h4;subst h4;exact .any v
   unfold bp at F;split at F
   ·rename_i g p a5 A;simp only[au] at F;subst F;simp only at b0;subst b0;have S:=ow (ops:=ops) (o:=o) (g:=none) (b:=true) hE a5 rfl;have U:bx P (orc o.dst) p (jM (yx ⟨o.dst,p,none⟩) (env j)) (sg j)=bx P (orc o.dst) p (env j) (sg j):=by
     refine yI (mj A) (λx X=>Ad (λn hn=>?_));subst hn;simp only[yx,kL,List.mem_filterMap]
     grind
    simp only[fo,g_,cC] at af;obtain ⟨⟨d,Y1,bV⟩,cv,h⟩:=af;simp only[aU] at h;obtain ⟨ab,an,bc⟩:=h;subst an bc;unfold wpOp;rw[ho];simp only[S,if_true];left;refine Ni (O o.dst) L.rel hE A (by rw[U];exact cv) _ λv w1 M1 ad R1 hv EV _=>?_;refine ih (listed.setIfInBounds j true) (j+1) M1 ad w1 _ (by grind) (by omega) (by omega) (λi hi bi=>?_) a1 (by omega) ⟨by rw[ET,L.TU,T.BO O (m:=j) (by omega),T.BO O (m:=j+1) (by omega)],by rw[JF,L.tP],R1,λR d' v' hc q1 q2=>?_,λi c0 z' hi G hn=>?_,?_⟩
    ·grind [Kv]
    ·rw[<-ab] at q1;rcases JG q2 with ⟨e,rfl⟩ | ⟨e,q2⟩
     ·rw[e] at q1;simp only[nC,yBM,if_true] at q1
      simp_all
     ·have q3:(env j)[R]? = some d':=by
       rw[<-q1];cases hd:o.dst with
       |none=>rfl
       |some s=>grind [nC,List.getElem?_set_ne]
      refine (L.tmp R d' v' (λi x hi X hd=>?_) q3 q2).mono EV
      grind [Kv]
    ·have b1:¬gD listed i:=λh=>hn ((Kv (by omega) i).2 (.inl h));have b2:=H.off T hi G (by omega) (by omega) (cg i hi b1);have W:(sg i).length<(sg j).length:=by
      have h1:(sg (i+1)).length=(sg i).length+1:=by rw[(H.blk T hi G).2.2];simp
      have:=T.cI O (m:=i+1) (m':=j) (by omega) (by omega);omega
     have b3:(sg j)[(sg i).length]? = some (sg j)[(sg i).length]:=dW W;obtain ⟨co,k1,_,k3⟩:=EV.keep _ _ b3;rw[(T.frame O (i:=j) (by omega)).2 _ W b2,b3] at k1;simp only[au] at k1;rw[k3 (by simp_all)];exact L.non i c0 z' hi G b1
    ·exact L.evo.trans EV (T.cI O (by omega) (by omega))
   simp_all
def Uj{M:Nat->Option Nat}{Fz:Nat->Prop}{w:World}{a:Act}(O:lT P orc)(T:Tr P orc ops os 0 n0 env sg wrs)(H:nQ os q)(hq:q<=n0)(G:∀i j,q<=i->i<j->n0<=j->j<os.length->CN ops i j)
  (hg:∀(i:Nat) x,os[i]? = some x->x.g=none) (u:∀(i j:Nat) x y t,i<q->i<j->os[i]? = some x->os[j]? = some y->x.dst=some t->y.dst≠some t) (v:∀(i j:Nat) x y t,i<q->i<=j->os[i]? = some x->os[j]? = some y->y.dst=some t->t∉yx x)
  (U:∀listed:Array Bool,listed.size=ops.size->Region.ready .any ops listed=[]->∀i,i<ops.size->gD listed i) (R:Rel (sg 0) M Fz w) (E:dB (sg 0) M Fz w (env 0) a.tmps) {Q:Exit->Act->World->Prop}
  (hQ:∀s w' M' Fz',s.defers=a.defers->Rel (sg os.length) M' Fz' w'->dB (sg os.length) M' Fz' w' (env os.length) s.tmps->bF (sg 0) M Fz w (sg os.length) M' Fz' w'->Q .normal s w') :
  wpAny P .any ops Q ops.size (Array.replicate ops.size false) a w:=by
 have an:=T.len;have W:=T.le;have z:∀b,M b≠none->b<(sg 0).length:=λb h=>by
  cases hM:M b with
  |none=>simp_all
  |some c=>exact (R.lt hM).1
 have X:∀(l:Nat)(listed:Array Bool)(M':Nat->Option Nat)(Fz':Nat->Prop)(w':World)(s:Act),listed.size=ops.size->Vv ops.size listed<=l->gg ops (gD listed)->(∀i,gD listed i->i<n0) ->
   Inv os n0 env sg wrs M Fz w a.defers (gD listed) M' Fz' w' s->wpAny P .any ops Q l listed s w':=by
  intro l;induction l with
  |zero=>intro listed M' Fz' w' s K hu S L I;have A:=ug (N:=ops.size) (listed:=listed) (by omega);exact Tj O T H hq G hg u v U hQ 0 listed n0 M' Fz' w' s K (cP _) W (λi _ hi=>⟨λh=>L i h,λ_=>A i hi⟩) S (by omega) (I.late T O H (λi _ h=>A i (by omega)) hq z)
  |succ l ih=>
   intro listed M' Fz' w' s K hu S L I;by_cases m:∀i,q<=i->i<n0->gD listed i
   ·exact Tj O T H hq G hg u v U hQ (l+1) listed n0 M' Fz' w' s K (cP _) W (λi hi _=>⟨λh=>L i h,λh=>m i hi h⟩) S hu (I.late T O H m hq z)
   ·refine ⟨λhr=>?_,λj hj=>?_⟩
    ·grind
    ·rw[mem_ready] at hj;obtain ⟨h1,o,ho,aa⟩:=hj;have ab:j<ops.size:=(CK.1 ho).1;have Z:¬gD listed j:=by
      grind [gD]
     have F:∀o' e,ops[j]? = some o'->e∈o'.after->Region.binds .any e=true->gD listed e.on:=λo' e r he ad=>by rw[ho] at r;simp only[au] at r;subst r;exact aa e he ad
     have af:j<n0:=by
      rcases rU j n0 with h | h
      ·exact h
      ·exact absurd (λi hi av=>(G i j hi (by omega) h (by omega)).ready S F) m
     refine I.step (S':=gD (listed.setIfInBounds j true)) T O S af Z F (λi=>Kv (by omega) i) _ λa1 w1 M1 ak I1=>?_;refine ih (listed.setIfInBounds j true) M1 ak w1 a1 (by grind) ?_ ?_ ?_ I1
     ·have:=CY (N:=ops.size) (listed:=listed) (k:=j) (by omega) ab Z;omega
     ·intro i o' e hi r he hb;rw[Kv (by omega)] at hi ⊢;rcases hi with hi | rfl
      ·exact .inl (S i o' e hi r he hb)
      simp_all
     grind [Kv]
 have p:∀i,¬gD (Array.replicate ops.size false) i:=λi h=>by grind [gD,iR]
 refine X ops.size _ M Fz w a (by simp) ?_ (λj o e hj=>absurd hj (p j)) (λi hi=>absurd hi (p i)) (Inv.start R rfl E (λi _=>⟨λh=>absurd h (p i),λh=>by omega⟩) T O)
 grind [Vv]
def wU(g:Nat->Nat)(o:Oper):Oper:={ o with after:=o.after.map λe=>{ e with on:=g e.on } }
structure Perm (ops ops2:Array Oper) (f g:Nat->Nat):Prop where
 size:ops2.size=ops.size
 get:∀i,i<ops.size->ops2[i]? = (ops[f i]?).map (wU g)
 Vw:∀i,i<ops.size->f i<ops.size
 Kp:∀i,i<ops.size->g i<ops.size
 fg:∀i,i<ops.size->f (g i)=i
 gf:∀i,i<ops.size->g (f i)=i
 guard:∀(i:Nat) o,ops[i]? = some o->o.guard=none
 on:∀(i:Nat) o e,ops[i]? = some o->e∈o.after->Region.binds .any e=true->e.on<ops.size
theorem reOn_wp{g:Nat->Nat}{o:Oper}{a:Act}{w:World}{K:Act->World->Prop}{Q:Exit->Act->World->Prop}(h:(wU g o).wp P a w K Q\/((wU g o).asks P a w/\LetsOut Q)):o.wp P a w K Q\/(o.asks P a w/\LetsOut Q):=h
def An(l:Array Bool)(i:Nat)(b a:Bool)(h:i<l.size):l.getD i b=l.getD i a:=by simp_all
def Dz{ops b:Array Oper}{f g:Nat->Nat}(X:Perm ops b f g):∀(listed a:Array Bool),listed.size=ops.size->a.size=ops.size->(∀i,i<ops.size->a.getD i true=listed.getD (f i) true)->∀j,j∈Region.ready .any ops listed->g j∈Region.ready .any b a:=by intro listed a hs p hl j h;rw[mem_ready] at h ⊢;obtain ⟨v,o,r,x⟩:=h;have h:j<ops.size:=(CK.1 r).1;refine ⟨by rw[hl _ (X.Kp j h),X.fg j h];exact v,wU g o,by rw[X.get _ (X.Kp j h),X.fg j h,r];rfl,λe s hb=>?_⟩;simp only[wU,Array.mem_map] at s;obtain ⟨u,m,rfl⟩:=s;have l:=X.on j o u r m hb;rw[An _ _ false true (by rw[p];exact X.Kp _ l),hl _ (X.Kp _ l),X.fg _ l,An _ _ true false (by omega)];exact x u m hb
theorem perm_wp{ops m:Array Oper}{f g:Nat->Nat}(X:Perm ops m f g){Q:Exit->Act->World->Prop}:∀(p:Nat)(listed b:Array Bool)(a:Act)(w:World),listed.size=ops.size->b.size=ops.size->(∀i,i<ops.size->b.getD i true=listed.getD (f i) true) ->
  wpAny P .any m Q p b a w->wpAny P .any ops Q p listed a w:=by
 have v:∀(listed b:Array Bool),listed.size=ops.size->b.size=ops.size->(∀i,i<ops.size->b.getD i true=listed.getD (f i) true)->Region.ready .any ops listed=[]->Region.ready .any m b=[]:=by
  intro listed b hs r hl h;cases A:Region.ready .any m b with
  |nil=>rfl
  |cons i l=>
   exfalso;have N:i∈Region.ready .any m b:=by simp_all
   rw[mem_ready] at N;obtain ⟨x,o,s,E⟩:=N;have hi:i<ops.size:=by grind
   rw[X.get i hi] at s;simp only[cC] at s;obtain ⟨O,y,rfl⟩:=s;have:f i∈Region.ready .any ops listed:=by rw[mem_ready];refine ⟨by simp_all,O,y,λe R hb=>?_⟩;have z:=X.on _ O e y R hb;have:=E { e with on:=g e.on } (by simp only[wU,Array.mem_map];grind) hb;simp only at this;rw[An _ _ false true (by grind),hl _ (X.Kp _ z),X.fg _ z,An _ _ true false (by omega)] at this;omega
   simp_all
 intro p;induction p with
 |zero=>
  intro listed b a w hs r hl h;refine ⟨?_,h.2⟩;cases A:Region.ready .any ops listed with
  |nil=>rfl
  |cons j l=>
   have:=Dz X listed b hs r hl j (by simp_all);rw[h.1] at this
   simp_all
 |succ p ih=>
  intro listed b a w hs r hl h;refine ⟨λA=>h.1 (v listed b hs r hl A),λj F=>?_⟩;have G:=Dz X listed b hs r hl j F;have:=h.2 (g j) G;rw[mem_ready] at F;obtain ⟨_,o,s,_⟩:=F;have u:j<ops.size:=(CK.1 s).1;have L:m[g j]? = some (wU g o):=by rw[X.get _ (X.Kp j u),X.fg j u,s];rfl
  have S:o.guard=none:=X.guard j o s;refine wpOp_mono (K:=wpAny P .any m Q p (b.setIfInBounds (g j) true)) (λa w T=>ih _ _ a w (by simp[hs]) (by grind) (λi hi=>?_) T) ?_
  ·have U:(b.setIfInBounds (g j) true).getD i true=if g j=i then true else b.getD i true:=by
    simp only[yBc,yAW]
    grind
   have W:(listed.setIfInBounds j true).getD (f i) true=if j=f i then true else listed.getD (f i) true:=by
    simp only[yBc,yAW]
    grind
   rw[U,W,hl i hi];by_cases x:g j=i
   ·rw[if_pos x,if_pos (by rw[<-x,X.fg j u])]
   ·rw[if_neg x,if_neg (λZ=>x (by rw[Z,X.gf i hi]))]
  ·unfold wpOp at this ⊢;rw[L] at this;rw[s];have w1:Region.wanted (wU g o) (yielded m a.tmps)=true:=by grind [Go.Region.wanted,wU]
   have w2:Region.wanted o (yielded ops a.tmps)=true:=by grind [Go.Region.wanted]
   simp only[w1,if_true] at this;simp only[w2,if_true]
   grind [reOn_wp]
theorem LC{ops a:Array Oper}{f g:Nat->Nat}(X:Perm ops a f g){i j:Nat}(h:CN ops i j):CN a (g i) (g j):=by
 have l:∀{j o},ops[j]? = some o->a[g j]? = some (wU g o):=λ{j o} b=>by have p:=(CK.1 b).1;rw[X.get _ (X.Kp j p),X.fg j p,b];rfl
 induction h with
 |one b m hb hi=>exact .one (l b) (by simp only[wU,Array.mem_map];exact ⟨_,m,rfl⟩) (e:={ on:=g _,ground:=_ }) hb (by simp_all)
 |more b m hb hk _ ih=>exact .more (l b) (by simp only[wU,Array.mem_map];exact ⟨_,m,rfl⟩) (e:={ on:=g _,ground:=_ }) hb (by simp_all) ih
def isLt(o:aH):Bool:=match o with
 | ⟨some _,.alloc z,none⟩=>z.all isC
 | ⟨some _,.AO _,none⟩=>true
 | ⟨some _,.load _ _,none⟩=>true
 |_=>false
def isCl(o:aH):Bool:=match o.op with | .call ..=>true | _=>false
def PS:Nat->Nat->List aH->List Nat->List Nat
 |i, m, o :: os, b :: bs => match isLt o && Nat.beq (Nat.lor b m) m with
  |true=>i::PS (i+1) (Nat.lor m (2 ^ i)) os bs
  |false=>PS (i+1) m os bs
 |_,_,_,_=>[]
def permP(hs:List Nat)(n:Nat):List Nat:=hs++(List.range n).filter λi=>hs.all λj=>!Nat.beq j i
def nK(a:List Nat)(os:List aH):List aH:=a.map λi=>os.getD i default
def Ol(a:List Nat)(i:Nat):Nat:=a.getD i 0
def Rr(a:List Nat)(i:Nat):Nat:=a.findIdx λj=>Nat.beq j i
def Ya(a:List Nat)(n:Nat):Bool:=Nat.beq a.length n&&(List.range n).all λi=>(Nat.blt (Ol a i) n&&Nat.beq (Rr a (Ol a i)) i)&&(Nat.blt (Rr a i) n&&Nat.beq (Ol a (Rr a i)) i)
def Je(a b:List Nat)(q n0:Nat)(os:List aH):Bool:=
 ((List.range os.length).all λj=>Nat.blt j n0 || (List.range j).all λi=>Nat.blt i q || (a.getD (Ol b j) 0).testBit (Ol b i)) &&
 (((os.take q).all isLt&&os.all (λo=>o.g.isNone)) &&
 (((List.range os.length).all λj=>(List.range j).all λi=>!Nat.blt i q || (match (os.getD i default).dst,(os.getD j default).dst with | some s,some t=>!Nat.beq s t | _,_=>true)) &&
 (((List.range os.length).all λj=>(List.range (j+1)).all λi=>!Nat.blt i q || (match (os.getD j default).dst with | some t=>!(yx (os.getD i default)).contains t | _=>true)) &&
 (Ya b os.length&&(Nat.ble q n0&&Nat.ble n0 os.length)))))
def Ql(a b:List Nat)(is:List eC):Bool:=
 (List.range is.length).all λj=>(List.range j).all λi=>(a.getD (Ol b j) 0).testBit (Ol b i) || apart (is.getD i default) (is.getD j default)
def Sl(os:List aH)(a:List Nat):Option (List Nat×Nat×Nat):=
 let hs:=PS 0 0 os a
 let i:=(os.takeWhile λo=>!isCl o).length
 match hs.any λh=>Nat.blt i h with
 |false=>none
 |true=>
  let b:=permP hs os.length
  let n0:=hs.length+(((nK b os).drop hs.length).takeWhile λo=>!isCl o).length
  match Nat.beq b.length os.length&&Je a b hs.length n0 (nK b os) with
  |true=>some (b,hs.length,n0)
  |false=>none
def Xe{os:List aH}{a b:List Nat}{q n0:Nat}(h:Sl os a=some (b,q,n0)):b.length=os.length/\Je a b q n0 (nK b os)=true:=by
 unfold Sl at h;dsimp only at h;split at h
 ·simp at h
 ·split at h
  ·simp only[au,aU] at h;obtain ⟨rfl,rfl,rfl⟩:=h
   simp_all
  simp_all
def YL(ab:P.follows .mixedOrders=true)(O:lT P orc){id q n0:Nat}{r:List Nat}{ops:Array Oper}{os:List aH}{Y Y':ar}{M:Nat->Option Nat}{Fz:Nat->Prop}{w:World}{e e':List D}{a:Act}{is:List eC}{Q:Exit->Act->World->Prop}
  (hc:ops.toList.mapM (bp P ops)=some os) (F:z_ ops.toList=true) (R:Rel Y M Fz w) (E:dB Y M Fz w e a.tmps) (h:lL P orc n0 (nK r os) e Y=some (e',Y',is)) (be:r.length=os.length)
  (ad:Je (Qh ops.toList) r q n0 (nK r os)=true) (a5:Ql (Qh ops.toList) r is=true)
  (hQ:∀G w' M' Fz',G.defers=a.defers->Rel Y' M' Fz' w'->dB Y' M' Fz' w' e' G.tmps->bF Y M Fz w Y' M' Fz' w'->Q .normal G w'):(Code.region id ops true).wq P Q a w:=by
 obtain ⟨h1,h2⟩:=KJ hc
 have af:os.length=ops.size:=by omega
 have ak:(nK r os).length=os.length:=by grind [nK]
 simp only [Je,bG] at ad
 obtain ⟨c2,⟨c3,c4⟩,c5,c6,c7,c8,c9⟩:=ad
 have c8:=CH c8
 have c9:=CH c9
 simp only [Ya,bG,iK,yCd] at c7
 have pm:=c7.2
 rw [ak,af] at pm
 have Vw:∀i,i<ops.size->Ol r i<ops.size:=fun i hi=>tR.mp (pm i hi).1.1
 have Kp:∀i,i<ops.size->Rr r i<ops.size:=fun i hi=>tR.mp (pm i hi).2.1
 have fg:∀i,i<ops.size->Ol r (Rr r i)=i:=fun i hi=>dd (pm i hi).2.2
 have gf:∀i,i<ops.size->Rr r (Ol r i)=i:=fun i hi=>dd (pm i hi).1.2
 have K:∀i,i<ops.size->(nK r os)[i]? = os[Ol r i]?:=fun i hi=>by
  grind [Ol,nK]
 generalize bb:nK r os=u at h ak K c2 c3 c4 c5 c6 c9
 obtain ⟨env,sg,wrs,k1,k2,k3,k4,k5,k6,k7⟩:=SQ (n:=n0) u n0 e e' Y Y' is h
 subst k1 k2 k3 k4
 have c1:=a5
 unfold Ql at c1
 have an:∀(i:Nat) x,u[i]? = some x->x.g=none:=fun i x L=>by
  have:=iK.1 c4 x (Av L)
  simpa using this
 have S:∀(i:Nat) o,ops[i]? = some o->o.guard=none:=fun i o N=>by
  have av:=(CK.1 N).1
  have L:u[Rr r i]? = some os[i]:=by grind
  obtain ⟨o',U,v⟩:=h2 i _ (dW (by omega))
  rw [TJ,N] at U
  simp only [au] at U
  subst U
  have W:=an _ _ L
  unfold bp at v
  split at v
  ·rename_i g ao hg _
   simp only [au] at v
   rw [←v] at W
   simp only at W
   subst W
   cases hq:o.guard with
   | none=>rfl
   | some p =>
    obtain ⟨j,bc⟩:=p
    rw [hq] at hg
    simp only [zy] at hg
    split at hg <;> simp at hg
  grind
 let s:Array Oper:=Array.ofFn fun i:Fin ops.size=>wU (Rr r) (ops[Ol r i]'(Vw i i.isLt))
 have a6:s.size=ops.size:=by simp [s]
 have ax:∀i,i<ops.size->s[i]? = (ops[Ol r i]?).map (wU (Rr r)):=fun i hi=>by
  rw [qB (by omega),qB (Vw i hi)]
  simp [s]
 have X:Perm ops s (Ol r) (Rr r):=⟨a6,ax,Vw,Kp,fg,gf,S,fun i o e N he hb=>by
  have:=vo F i o e N he hb
  grind⟩
 have T:Tr P orc s u 0 n0 env sg wrs:={
  len:=by omega
  comp:=fun j ao Z=>by
   have bh:=(fq.1 Z).1
   rw [K j (by omega)] at Z
   obtain ⟨o,N,v⟩:=h2 _ ao Z
   rw [TJ] at N
   refine ⟨wU (Rr r) o,by grind,?_⟩
   unfold bp at v ⊢
   have e1:zy ops o.guard=some none:=by rw [S _ o N]; rfl
   have e2:zy s (wU (Rr r) o).guard=some none:=by
    show zy s o.guard=some none
    rw [S _ o N]; rfl
   rw [e1] at v
   rw [e2]
   exact v
  step:=fun i ao hi=>(k6 i ao hi).1
  wrk:=fun i hi=>k7 i (by omega) hi
  le:=by omega
  pair:=fun i j x y aa L hy=>by
   have Z:=(fq.1 hy).1
   have A:=iK.1 c1 j (by grind)
   have z:=iK.1 A i (by grind)
   simp only [gE] at z
   rcases z with z | z
   ·left
    have:=LC X (Du z)
    grind
   grind
  lead:=fun i hi=>by omega
  ple:=by omega }
 have H:nQ u q:=fun i hi=>by
  have av:i<u.length:=by omega
  have:=iK.1 c3 (u[i]) (by
   rw [yBR]
   exact ⟨i,by grind⟩)
  rw [dW av]
  generalize u[i]=x at this
  unfold isLt at this
  split at this
  ·grind
  ·grind
  ·grind
  grind
 refine xC ab (oe hc) ?_
 replace hQ:=fun G w' M' Fz' h1 h2 A z=>(⟨hQ G w' M' Fz' h1 h2 A z,by simp⟩:kS Q .normal G w')
 have R1:Rel (sg 0) M Fz { w with drawn:=w.drawn+1 }:=R.heap rfl ⟨rfl,rfl,rfl⟩
 have EH:bF (sg 0) M Fz w (sg 0) M Fz { w with drawn:=w.drawn+1 }:=bF.heap R rfl ⟨rfl,rfl,rfl⟩
 have bd:=Uj (Q:=kS Q) O T H (by omega) (fun i j bi aa bk Z=>by
   have A:=iK.1 c2 j (by grind)
   simp only [gE] at A
   rcases A with A | A
   ·grind [Nat.blt_eq]
   ·have z:=iK.1 A i (by grind)
    simp only [gE] at z
    rcases z with z | z
    ·grind [Nat.blt_eq]
    ·have:=LC X (Du z)
     grind) an
  (fun i j x y t hi aa L hy hd a7=>by
   have Z:=(fq.1 hy).1
   have A:=iK.1 c5 j (by grind)
   have z:=iK.1 A i (by grind)
   simp only [Vo,L,hy,OE,hd,a7,tR.mpr hi,yC7] at z
   grind)
  (fun i j x y t hi aa L hy hd hm=>by
   have Z:=(fq.1 hy).1
   have A:=iK.1 c6 j (by grind)
   have z:=iK.1 A i (by grind)
   have a8:(yx x).contains t=true:=by grind
   simp only [Vo,L,hy,OE,hd,tR.mpr hi,a8] at z
   grind)
  (fun m bl hr i hi=>by
   let b:Array Bool:=Array.ofFn fun i:Fin ops.size=>m.getD (Rr r i) true
   have a0:b.size=ops.size:=by simp [b]
   have bt:∀i,i<ops.size->b.getD i true=m.getD (Rr r i) true:=fun i hi=>by
    rw [yBc,qB (by omega)]
    simp [b]
   have a1:∀i,i<ops.size->m.getD i true=b.getD (Ol r i) true:=fun i hi=>by grind
   have a9:Region.ready .any ops b=[]:=by
    cases hq:Region.ready .any ops b with
    | nil=>rfl
    | cons j l =>
     have:=Dz X b m a0 (by omega) a1 j (by grind)
     grind
   have a2:=yT a0 (vo F) a9
   have:=a2 (Ol r i) (Vw i (by omega))
   unfold gD at this ⊢
   grind)
  R1 (E.mono EH) (fun G w' M' Fz' hd R' E' EV=>hQ G w' M' Fz' hd R' E' (EH.trans EV (cP _)))
 exact perm_wp X ops.size (Array.replicate ops.size false) (Array.replicate ops.size false) a _ (by simp) (by simp) (fun i hi=>by
  rw [yBc,yBc,yCv,yCv,if_pos (by omega),if_pos (Vw i hi)]) (by grind)
theorem Sem.drwG{nn q n0:Nat}{z:List Nat}{al:AL}{Y:ar}{Q:nr->AL->ar->Prop}{os:List aH}{k:Nat}{s:List Nat}{p:Nat}(u:P.follows .mixedOrders=true)(O:lT P orc)(hl:Sl os s=some (z,q,n0))
  (h:cj P orc n0 (nK z os) nn al Y λal' Y' is=>Ql s z is=true/\Q .normal al' Y'):Sem P (.HH os s k p) nn al Y Q:=by
 obtain ⟨al1,Y1,is,h,Z,hQ⟩:=h;obtain ⟨E,F⟩:=Xe hl;intro c j M Fz w a K R A hK;obtain ⟨e',W,h2⟩:=h _ A.de.2;cases c with
 |region id ops X=>
  simp only[bD] at j;split at j
  ·rename_i aa G;split at j
   ·rename_i U;subst U;split at j
    ·rename_i hb;simp only[au,aQ.HH.injEq] at j;obtain ⟨rfl,rfl,_,_⟩:=j;refine YL u O G hb R A.de.1 W E F Z λa' w' M' Fz' U R' E' EV=>?_;exact hK .normal al1 Y1 a' w' M' Fz' hQ (Mk.of_eq U) R' (ed.RZ E' h2) EV (ES O _ _ _ _ _ _ _ W).1
    simp_all
   simp_all
  simp_all
 |seq a b=>grind [bD]
 |cond o a b=>grind [bD]
 |block i b=>simp[bD] at j
 |loop b=>simp[bD] at j
 |scope b=>grind [bD,Option.map_eq_some_iff,IQ]
 |rangeFunc g ps x y=>rcases dZ j with ⟨_,_,_,_,_,_,_,e⟩ | e <;> cases e
 |_=>grind [bD]
end
end Go.Abs
end
section
namespace Go.Abs
variable[Gl]
inductive CC where
 |int (k:IntKind)
 |bool
 |str
 |sl (i:Nat)
 |fk (gs:List Nat)
 deriving DecidableEq,Inhabited
@[reducible] def CC.den(T:Nat->Type):CC->Type
 |.int _=>Int
 |.bool=>Bool
 |.str=>ByteArray
 |.sl i=>List (T i)
 |.fk _=>Nat
@[reducible] def tupT(T:Nat->Type):List CC->Type
 |[]=>Unit
 |c::a=>c.den T×tupT T a
def okL(i:Nat):List CC->Bool
 |[]=>true
 |.sl j::l=>Nat.blt j i&&okL i l
 |_::l=>okL i l
theorem zd{i j:Nat}:∀{l:List CC},okL i l=true->CC.sl j∈l->j<i:=by
 intro l;induction l with
 |nil=>intro _ h;simp at h
 |cons c l ih=>
  intro e h;cases c <;> simp only[okL,bG,gy,reduceCtorEq,false_or,CC.sl.injEq] at e h
  case sl=>rcases h with rfl | h;exact tR.mp e.1;exact ih e.2 h
  all_goals exact ih e h
class Ty where
 T:Nat->Type
 fl:Nat->List CC
 prj:∀i,T i->tupT T (fl i)
 mkt:∀i,tupT T (fl i)->T i
 mp:∀i a,mkt i (prj i a)=a
 pm:∀i x,prj i (mkt i x)=x
 dn:∀i j,CC.sl j∈fl i->j<i
 ps:∀i,0<(fl i).length
section
variable[σ:Ty]
abbrev TT(i:Nat):Type:=σ.T i
abbrev CC.dn(c:CC):Type:=c.den σ.T
abbrev aV(cs:List CC):Type:=tupT σ.T cs
abbrev aB(i:Nat):Nat:=(σ.fl i).length
def tL(rec:(j:Nat)->TT j->List C):(c:CC)->c.dn->C
 |.int k,n=>.lit (.int k n)
 |.bool,b=>.lit (.bool b)
 |.str,s=>.lit (.string s)
 |.sl j,l=>.cJ false (l.map (rec j))
 |.fk _,g=>.fn (.func g) [] []
def mR(rec:(j:Nat)->TT j->List C):(cs:List CC)->aV cs->List C
 |[],_=>[]
 |c::cs,x=>tL rec c x.1::mR rec cs x.2
def Nd:Nat->(i:Nat)->TT i->List C
 |0,_,_=>[]
 |k+1,i,a=>mR (Nd k) (σ.fl i) (σ.prj i a)
def enc(i:Nat)(a:TT i):List C:=Nd (i+1) i a
theorem EW{a b:(j:Nat)->TT j->List C}:∀(cs:List CC)(x:aV cs),(∀j,CC.sl j∈cs->a j=b j)->mR a cs x=mR b cs x:=by
 intro cs;induction cs with
 |nil=>intro x _;rfl
 |cons c cs ih=>
  intro x h;simp only[mR];rw[ih x.2 λj i=>h j (o_ _ i)];congr 1;cases c with
  |sl j=>grind [tL]
  |_=>rfl
theorem Zr:∀(k i:Nat),i<k->Nd (σ:=σ) k i=enc i:=by
 intro k;induction k using Nat.strongRecOn with
 |_ k ih=>
  intro i hi;funext a;cases k with
  |zero=>omega
  |succ k=>
   simp only[enc,Nd];refine EW _ _ λj b=>?_;have h:=σ.dn i j b
   grind
theorem uq(i:Nat)(a:TT i):enc i a=mR enc (σ.fl i) (σ.prj i a):=by show mR (Nd i) (σ.fl i) (σ.prj i a)=_;exact EW _ _ λj b=>Zr i j (σ.dn i j b)
theorem YX{r:(j:Nat)->TT j->List C}:∀(cs:List CC)(x:aV cs),(mR r cs x).length=cs.length:=by
 intro cs;induction cs with
 |nil=>intro x;rfl
 |cons c cs ih=>grind [mR]
theorem uU(i:Nat)(a:TT i):(enc i a).length=aB i:=by rw[uq,YX]
theorem Mg{r:(j:Nat)->TT j->List C}{c:CC}(i:∀j,c=.sl j->∀a b,r j a=r j b->a=b){a b:c.dn}(h:tL r c a=tL r c b):a=b:=by
 cases c with
 |int k=>grind [tL]
 |bool=>grind [tL]
 |str=>grind [tL]
 |sl j=>simp only[tL,C.cJ.injEq,true_and] at h;exact map_inj (λ{a b}=>i j rfl a b) h
 |fk l=>simpa[tL] using h
theorem WO{r:(j:Nat)->TT j->List C}:∀{cs:List CC},(∀j,CC.sl j∈cs->∀a b,r j a=r j b->a=b)->∀{x y:aV cs},mR r cs x=mR r cs y->x=y:=by
 intro cs;induction cs with
 |nil=>simp_all
 |cons c cs ih=>grind [mR,Mg]
theorem IL:∀(i:Nat)(a b:TT i),enc i a=enc i b->a=b:=by
 intro i;induction i using Nat.strongRecOn with
 |_ i ih=>intro a b h;rw[uq,uq] at h;have:=WO (λj l=>ih j (σ.dn i j l)) h;rw[<-σ.mp i a,<-σ.mp i b,this]
inductive CV where
 |d (x:D)
 |b (e:Bool)
 |sl (i:Nat) (l:List (TT i))
def CV.er:CV->D
 |.d x=>x
 |.b e=>B e
 |.sl i l=>.c (.cJ false (l.map (enc i)))
def CV.low(m:Nat):CV->Bool
 |.d x=>x.low m
 |_=>true
inductive TC where
 |any
 |d (x:D)
 |b (e:Bool)
 |sl (i:Nat) (l:List (TT i))
 |own (i b v n:Nat)
 |fp (i:Nat) (a:TT i) (off:Nat)
 |op (i b v n:Nat) (k:Int) (a:TT i) (off:Nat)
 |ap (b off len sz:Nat) (k:Int)
 |os (i b v n lo len:Nat)
 |fl (n:Int)
 |cx (x y:Int)
 |Gt (g:FuncId) (xs:List CV)
def TC.er:TC->D
 |.any=>.any
 |.d x=>x
 |.b e=>B e
 |.sl i l=>.c (.cJ false (l.map (enc i)))
 |.own i c _ n=>OS (aB i) c n
 |.fp i a off=>.c (.cD (enc i a) off)
 |.op i c _ n k _ off=>.ptr c (k.toNat * aB i+off) (n * aB i)
 |.ap c off _ sz k=>.ptr c (off+k.toNat * 1) sz
 |.os i c _ n j len=>.sl c (0+j * aB i) len (aB i) (n * aB i)
 |.fl n=>.c (.lit (.float .f64 (Fl.fl n)))
 |.cx x y=>.c (.lit (.complex .f64 (Fl.fl x) (Fl.fl y)))
 |.Gt g o=>.fn (.func g) [.agg (o.map CV.er)] []
def RC(x:TC)(d:D):Prop:=x=.any\/d=x.er
inductive TV where
 |c (x:TC)
 |agg (xs:List TC)
 |aV (xs:List (Bool×List TC))
inductive aM {α β:Type} (R:α->β->Prop):List α->List β->Prop where
 |nil:aM R [] []
 |cons {a:α} {b:β} {l:List α} {m:List β} (h:R a b) (r:aM R l m):aM R (a::l) (b::m)
def RE(p:Bool×List TC)(d:D):Prop:=
 match p with
 |(true,xs)=>∃ds,d=.agg ds/\aM RC xs ds
 |(false,xs)=>∃x,xs=[x]/\RC x d
def RT:TV->D->Prop
 |.c x,d=>RC x d
 |.agg xs,d=>∃ds,d=.agg ds/\aM RC xs ds
 |.aV xs,d=>∃ds,d=.aV ds/\aM RE xs ds
inductive RV where
 |v (x:TV)
 |g (c want:Bool) (p:Nat) (x:TV)
def RR:RV->D->Prop
 |.v x,d=>RT x d
 |.g c want _ x,d=>if c=want then RT x d else d=.aV []
inductive TB where
 |cells (w:Nat) (cs:List (Nat×TC))
 |row (i:Nat) (l:List (TT i)) (lv cv:Nat)
 |mp (j:Nat) (st:Bool) (l:List (Int×TT j)) (v:Nat)
def Pv(j:Nat)(st:Bool)(a:TT j):D:=if st then .agg ((enc j a).map .c) else .c ((enc j a).headD (.lit undef))
def TB.er:TB->Ob
 |.cells _ o=>.cells (o.map λp=>p.2.er)
 |.row i l _ _=>OB (enc i) l
 |.mp j st l _=>MB (Pv j st) l
def RB(blk:TB)(ob:Ob):Prop:=ob=blk.er
abbrev TH:=List TB
abbrev TA:=List (Nat×RV)
def OF(t:Nat):TA->Option RV
 |[]=>none
 |(s,x)::al=>match Nat.beq s t with | true=>some x | false=>OF t al
def iI(t:Nat):TA->Option (RV×Nat)
 |[]=>none
 |(s,x)::al=>match Nat.beq s t with | true=>some (x,al.length) | false=>iI t al
def tc:(c:CC)->c.dn->TC
 |.int k,n=>.d (.c (.lit (.int k n)))
 |.bool,b=>.b b
 |.str,s=>.d (.c (.lit (.string s)))
 |.sl j,l=>.sl j l
 |.fk _,g=>.d (.c (.fn (.func g) [] []))
def uj:(cs:List CC)->aV cs->List TC
 |[],_=>[]
 |c::cs,x=>tc c x.1::uj cs x.2
def exp(i:Nat)(a:TT i):List TC:=uj (σ.fl i) (σ.prj i a)
theorem lu(c:CC)(a:c.dn):(tc c a).er=.c (tL enc c a):=by cases c <;> rfl
theorem expT_er:∀(cs:List CC)(x:aV cs),(uj cs x).map TC.er=(mR enc cs x).map .c:=by
 intro cs;induction cs with
 |nil=>intro x;rfl
 |cons c cs ih=>grind [uj,mR,lu]
def vj(i:Nat)(a:TT i):(exp i a).map TC.er=(enc i a).map .c:=by rw[exp,expT_er,uq]
theorem aM.er:∀(xs:List TC),aM RC xs (xs.map TC.er):=by
 intro xs;induction xs with
 |nil=>exact .nil
 |cons x xs ih=>exact .cons (.inr rfl) ih
theorem aM.eq:∀{xs:List TC}{ds:List D},aM RC xs ds->(∀y∈xs,y≠.any)->ds=xs.map TC.er:=by
 intro xs ds h;induction h with
 |nil=>simp_all
 |cons h r ih=>
  intro i;rcases h with h | h
  ·simp_all
  simp_all
theorem aM.len{α i:Type}{R:α->i->Prop}{l:List α}{m:List i}(h:aM R l m):l.length=m.length:=by
 induction h with
 |nil=>rfl
 |cons _ _ ih=>simp[ih]
theorem aM.get{α j:Type}{R:α->j->Prop}{l:List α}{m:List j}(h:aM R l m):∀(i:Nat) a,l[i]? = some a->∃b,m[i]? = some b/\R a b:=by
 induction h with
 |nil=>simp_all
 |cons h _ ih=>grind
theorem aM.get'{α j:Type}{R:α->j->Prop}{l:List α}{m:List j}(h:aM R l m):∀(i:Nat) b,m[i]? = some b->∃a,l[i]? = some a/\R a b:=by
 induction h with
 |nil=>simp_all
 |cons h _ ih=>grind
theorem aM.VF{α i:Type}{R:α->i->Prop}{l j:List α}{m m':List i}(h:aM R l m)(o:aM R j m'):aM R (l++j) (m++m'):=by
 induction h with
 |nil=>exact o
 |cons h _ ih=>exact .cons h ih
theorem aM.take{α i:Type}{R:α->i->Prop}{l:List α}{m:List i}(h:aM R l m):∀n:Nat,aM R (l.take n) (m.take n):=by
 induction h with
 |nil=>intro n;simp;exact .nil
 |cons h _ ih=>
  intro n;cases n with
  |zero=>exact .nil
  |succ n=>exact .cons h (ih n)
theorem aM.drop{α i:Type}{R:α->i->Prop}{l:List α}{m:List i}(h:aM R l m):∀n:Nat,aM R (l.drop n) (m.drop n):=by
 induction h with
 |nil=>intro n;simp;exact .nil
 |cons h r ih=>
  intro n;cases n with
  |zero=>exact .cons h r
  |succ n=>grind
def iB{i j:Nat}(l:List (TT j)):Option (List (TT i)):=match decEq j i with | .isTrue h=>some (h▸l) | .isFalse _=>none
theorem zdK{i j:Nat}{l:List (TT j)}{m:List (TT i)}(h:iB l=some m):∃e:j=i,m=e▸l:=by
 unfold iB at h;split at h
 ·simp_all
 simp_all
def E_:(c:CC)->TC->Option c.dn
 |.int k,.d (.c (.lit (.int a n)))=>match decEq a k with | .isTrue _=>some n | .isFalse _=>none
 |.bool,.b e=>some e
 |.bool,.d (.c (.lit (.bool e)))=>some e
 |.str,.d (.c (.lit (.string s)))=>some s
 |.sl _,.sl _ l=>iB l
 |.sl _,.d (.c (.lit (.slice none 0 0)))=>some []
 |.sl _,.d (.c (.cJ false []))=>some []
 |.fk _,.d (.c (.fn (.func g) [] []))=>some g
 |_,_=>none
def DS:(cs:List CC)->List TC->Option (aV cs)
 |[],[]=>some ()
 |c :: cs, x :: xs => match E_ c x, DS cs xs with
  |some a,some b=>some (a,b)
  |_,_=>none
 |_,_=>none
theorem oK{c:CC}{x:TC}{a:c.dn}(h:E_ c x=some a):x≠.any/\xk x.er=.c (tL enc c a):=by
 unfold E_ at h;split at h
 ·split at h
  ·rename_i e _;subst e;simp only[au] at h;subst h;exact ⟨by simp,rfl⟩
  simp_all
 ·simp only[au] at h;subst h;exact ⟨by simp,rfl⟩
 ·simp only[au] at h;subst h;exact ⟨by simp,rfl⟩
 ·simp only[au] at h;subst h;exact ⟨by simp,rfl⟩
 ·obtain ⟨rfl,rfl⟩:=zdK h;exact ⟨by simp,rfl⟩
 ·simp only[au] at h;subst h;exact ⟨by simp,rfl⟩
 ·simp only[au] at h;subst h;exact ⟨by simp,rfl⟩
 ·simp only[au] at h;subst h;exact ⟨by simp,rfl⟩
 ·simp at h
theorem QA{c:CC}{x:TC}{a:c.dn}(h:E_ c x=some a):x=.d (.c (.lit (.slice none 0 0)))\/x.er=.c (tL enc c a):=by
 unfold E_ at h;split at h
 ·split at h
  ·rename_i e _;subst e;simp only[au] at h;subst h;exact .inr rfl
  simp_all
 ·simp only[au] at h;subst h;exact .inr rfl
 ·simp only[au] at h;subst h;exact .inr rfl
 ·simp only[au] at h;subst h;exact .inr rfl
 ·obtain ⟨rfl,rfl⟩:=zdK h;exact .inr rfl
 ·simp only[au] at h;subst h;exact .inl rfl
 ·simp only[au] at h;subst h;exact .inr rfl
 ·simp only[au] at h;subst h;exact .inr rfl
 ·simp at h
theorem Px:∀{cs:List CC}{xs:List TC}{a:aV cs},DS cs xs=some a->(∀y∈xs,y≠.any)/\(xs.map TC.er).map xk=(mR enc cs a).map .c:=by
 intro cs;induction cs with
 |nil=>
  intro xs a h;cases xs with
  |nil=>exact ⟨by simp,rfl⟩
  |cons x xs=>grind [DS]
 |cons c cs ih=>
  intro xs a h;cases xs with
  |nil=>grind [DS]
  |cons x xs=>grind [DS,oK,mR]
inductive dt where
 |c (x:CC)
 |st (i:Nat)
 |fp (i:Nat)
 |k (g:Nat)
@[reducible] def dt.dn:dt->Type
 |.c x=>x.dn
 |.st i=>TT i
 |.fp i=>TT i
 |.k _=>Unit
def dt.enc:(c:dt)->c.dn->D
 |.c x,a=>.c (tL Go.Abs.enc x a)
 |.st i,a=>ST (Go.Abs.enc i a)
 |.fp i,a=>.c (.cD (Go.Abs.enc i a) 0)
 |.k x,_=>.c (.fn (.func x) [] [])
def dt.tv:(c:dt)->c.dn->TV
 |.c x,a=>.c (tc x a)
 |.st i,a=>.agg (exp i a)
 |.fp i,a=>.c (.fp i a 0)
 |.k x,_=>.c (.d (.c (.fn (.func x) [] [])))
theorem dt.EA(c:dt)(a:c.dn):RT (c.tv a) (c.enc a):=by
 cases c with
 |c x=>exact .inr (lu x a).symm
 |st i=>exact ⟨_,rfl,by rw[<-vj];exact aM.er _⟩
 |fp i=>exact .inr rfl
 |k x=>exact .inr rfl
@[reducible] def tD:List dt->Type
 |[]=>Unit
 |c::a=>c.dn×tD a
def sF:(cs:List dt)->tD cs->List D
 |[],_=>[]
 |c::cs,x=>c.enc x.1::sF cs x.2
def tvV:(cs:List dt)->tD cs->List TV
 |[],_=>[]
 |c::cs,x=>c.tv x.1::tvV cs x.2
@[reducible] def kY:List dt->Type
 |[]=>Unit
 |[c]=>c.dn
 |c::d::a=>c.dn×kY (d::a)
def wx(i:Nat):TV->Option (TT i)
 |.c (.fp j a 0)=>match decEq j i with | .isTrue h=>some (h▸a) | .isFalse _=>none
 |_=>none
def PH(g:Nat):TV->Option Unit
 |.c (.d (.c (.fn (.func a) [] [])))=>match Nat.beq a g with | true=>some () | false=>none
 |_=>none
def Kc(x:CC):TV->Option x.dn
 |.c y=>E_ x y
 |_=>none
def Cw(i:Nat):TV->Option (TT i)
 |.agg a=>match DS (σ.fl i) a with | some x=>some (σ.mkt i x) | none=>none
 |_=>none
def qC:(c:dt)->TV->Option c.dn
 |.c x,v=>Kc x v
 |.st i,v=>Cw i v
 |.fp i,v=>wx i v
 |.k g,v=>PH g v
end
end Go.Abs
end
