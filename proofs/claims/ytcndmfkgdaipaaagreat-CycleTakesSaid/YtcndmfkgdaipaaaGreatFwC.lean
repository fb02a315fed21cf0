/- Lemmas. -/
import Derived.Test.YtcndmfkgdaipaaaGreatFwB
import Derived.Laws.StructEq
import GoSem.Core.Float
import GoSem.Op.Complex
import GoSem.Conv.FloatToInt
set_option linter.all false
section
namespace Go.Abs
variable[Gl]
section
variable{P:Program}{orc:fj}{σ σ' σ1 aC:ar}{n:Nat}{al al1 al2:AL}{Q:ni->AL->ar->Prop}
theorem Sem.mono{ac:aP}{Q':ni->AL->ar->Prop}(h:Sem P ac n al σ Q)(j:∀x al' σ',Q x al' σ'->∃al2 aC,Wk σ.length al' σ' al2 aC/\Q' x al2 aC):Sem P ac n al σ Q':=by
 intro c o M Fz w a K R A U;refine h c o M Fz w a K R A λx al' σ' W w' M' Fz' s i u z E hl=>?_;obtain ⟨al2,aC,F,G⟩:=j x al' σ' s;obtain ⟨X,Z,A2,E2,l2,O⟩:=F.use u z E hl;have i:=i.wth O
 grind
theorem Sem.pre{ac:aP}(hs:Sub al al1)(h:Sem P ac n al1 σ Q):Sem P ac n al σ Q:=by intro c i M Fz w a K R A j;exact h c i M Fz w a K R (A.sub hs) j
theorem kU.pre{ac:aP}{k:Nat}(hs:Sub al al1)(h:kU P ac k n al1 σ Q):kU P ac k n al σ Q:=by intro c i M Fz w a K R A j;exact h c i M Fz w a K R (A.sub hs) j
theorem Sem.Eg(i:P.follows .mixedOrders=true)(O:lN P orc){ac:aP}{k:Nat}{x:ni}{e e':List D}{wr wr':List Nat}(h:kD P orc k ac e σ wr=some (x,e',σ',wr'))
  (o:e=wV n al) (s:Env n al1 e') (E:Q x al1 σ'):Sem P ac n al σ Q:=by
 intro c u M Fz w a K R A F;subst o;refine (HJ i O k).1 c ac σ σ' M Fz w _ e' a wr wr' x K u R A.c_.1 h λz w' M' Fz' j G U W=>?_;have j:=(Mk.of_eq j:Mk w.heap.size M' Fz' w' z.defers a.defers)
 grind [dX.R_,vw]
theorem Sem.skip(i:P.follows .mixedOrders=true)(j:Q .normal al σ):Sem P .skip n al σ Q:=by intro c o M Fz w a K R A s;have:Sem P .skip n al σ Q:=Sem.Eg i (orc:=λ_ _ _ _=>none) (λt g ds σ r σ' wr h=>by simp at h) (k:=1) (wr:=[]) (wr':=[]) (e:=wV n al) rfl rfl A.c_.2 j;exact this c o M Fz w a K R A s
theorem Sem.ret(i:P.follows .mixedOrders=true)(j:Q .ret al σ):Sem P .ret n al σ Q:=by intro c o M Fz w a K R A s;have:Sem P .ret n al σ Q:=Sem.Eg i (orc:=λ_ _ _ _=>none) (λt g ds σ r σ' wr h=>by simp at h) (k:=1) (wr:=[]) (wr':=[]) (e:=wV n al) rfl rfl A.c_.2 j;exact this c o M Fz w a K R A s
theorem Sem.exit(i:P.follows .mixedOrders=true){id:Nat}(j:Q (.exit id) al σ):Sem P (.exit id) n al σ Q:=by intro c o M Fz w a K R A s;have:Sem P (.exit id) n al σ Q:=Sem.Eg i (orc:=λ_ _ _ _=>none) (λt g ds σ r σ' wr h=>by simp at h) (k:=1) (wr:=[]) (wr':=[]) (e:=wV n al) rfl rfl A.c_.2 j;exact this c o M Fz w a K R A s
theorem Sem.seq{a b:aP}(h:Sem P a n al σ λx al1 σ1=>match x with | .normal=>∃al2 aC,Wk σ.length al1 σ1 al2 aC/\Sem P b n al2 aC Q | x=>Q x al1 σ1):Sem P (.seq a b) n al σ Q:=by
 intro c j M Fz w s K R A U;cases c with
 |seq c1 W=>
  simp only[bB] at j;split at j
  ·rename_i a1 a2 h1 h2;simp only[au,aP.seq.injEq] at j;obtain ⟨rfl,rfl⟩:=j;refine Qi (h c1 h1 M Fz w s _ R A λx al1 σ1 X w' M' Fz' Z hd R' A' E' hl=>?_);cases x with
   |normal=>obtain ⟨al2,aC,hw,hs⟩:=Z;obtain ⟨M2,R2,A2,E2,l2,W2⟩:=hw.use R' A' E' hl;exact hs W h2 M2 Fz' w' X K R2 A2 λx u z a3 w3 M3 E F G R3 A3 E3 O=>U x u z a3 w3 M3 E F (Mk.trans E3 E2.size (hd.wth W2) G) R3 A3 (E2.trans E3 l2) (kj l2 O)
   |exit i=>grind [pp]
   |ret=>exact U .ret al1 σ1 X w' M' Fz' Z hd R' A' E' hl
  simp_all
 |region id ops aa=>
  simp only[bB] at j
  grind
 |cond o c1 W=>grind [bB]
 |block id c1=>simp[bB] at j
 |loop c1=>simp[bB] at j
 |scope b=>grind [bB,Option.map_eq_some_iff,JK]
 |rangeFunc g ps x y=>rcases dS j with ⟨_,_,_,_,_,_,_,e⟩ | e <;> cases e
 |_=>grind [bB]
theorem Sem.cond{o:aQ}{t e:aP}{b:Bool}(u:(match o with | .t k=>lk k al | .k d=>some d)=some (.c (.lit (.bool b))))
  (U:b=true->Sem P t n al σ Q) (W:b=false->Sem P e n al σ Q):Sem P (.cond o t e) n al σ Q:=by
 intro c i M Fz w j K R A z;cases c with
 |cond x c1 E=>
  simp only[bB] at i;split at i
  ·rename_i F a1 a2 X Z h4;simp only[au,aP.cond.injEq] at i;obtain ⟨rfl,rfl,rfl⟩:=i;have G:=nE A.c_.1 X;have s:gD (F.ev (wV n al))=some b:=by
    cases F with
    |t k=>dsimp only at u;simp[aQ.ev,A.c_.2.2 k _ u,gD]
    |k d=>simp only[au] at u;subst u;rfl
   cases b with
   |true=>exact zx (nM G s) (U rfl c1 Z M Fz w j K R A z)
   |false=>exact wQ (nM G s) (W rfl E h4 M Fz w j K R A z)
  simp_all
 |region id ops O=>
  simp only[bB] at i
  grind
 |seq c1 E=>grind [bB]
 |block id c1=>simp[bB] at i
 |loop c1=>simp[bB] at i
 |scope b=>grind [bB,Option.map_eq_some_iff,JK]
 |rangeFunc g ps x y=>rcases dS i with ⟨_,_,_,_,_,_,_,e⟩ | e <;> cases e
 |_=>grind [bB]
theorem Sem.step{a b:aP}(al2:AL)(aC:ar)(i:Sem P a n al σ λx al1 σ1=>x=.normal/\Wk σ.length al1 σ1 al2 aC)(j:Sem P b n al2 aC Q):Sem P (.seq a b) n al σ Q:=
 Sem.seq (i.mono λx al1 σ1 ⟨o,s⟩=>⟨al1,σ1,.refl,by grind⟩)
def out(id:Nat):ni->ni
 |.exit i=>if i=id then .normal else .exit i
 |x=>x
def behind(id:Nat)(Q:ni->AL->ar->Prop)(al:AL)(σ:ar):ni->Prop
 |.normal=>Q .normal al σ
 |.ret=>Q .ret al σ
 |.exit i=>(i=id->Q .normal al σ)/\(i≠id->Q (.exit i) al σ)
theorem Sem.block{id:Nat}{b:aP}(G:Sem P b n al σ λx al1 σ1=>∃al2 aC,Wk σ.length al1 σ1 al2 aC/\behind id Q al2 aC x):Sem P (.block id b) n al σ Q:=by
 have h:Sem P b n al σ λx al1 σ1=>∃al2 aC,Wk σ.length al1 σ1 al2 aC/\Q (out id x) al2 aC:=G.mono λx al1 σ1 ⟨al2,aC,u,hb⟩=>⟨al1,σ1,.refl,al2,aC,u,by
  cases x with
  |normal=>exact hb
  |ret=>exact hb
  |exit i=>
   by_cases hi:i=id
   ·simp only[out,if_pos hi];exact hb.1 hi
   ·simp only[out,if_neg hi];exact hb.2 hi⟩
 intro c s M Fz w z K R A O;cases c with
 |block i c1=>
  simp only[bB,cy,aP.block.injEq] at s;obtain ⟨a1,U,rfl,rfl⟩:=s;refine Kx (h c1 U M Fz w z _ R A λx al1 σ1 W w' M' Fz' X Z R' A' E' hl=>?_);obtain ⟨al2,aC,u,hq⟩:=X;obtain ⟨M2,R2,A2,E2,l2,W2⟩:=u.use R' A' E' hl;have:=O _ al2 aC W w' M2 Fz' hq (Z.wth W2) R2 A2 E2 l2;cases x with
  |normal=>exact this
  |ret=>exact this
  |exit j=>
   by_cases E:j=2 * i
   ·simp only[out,if_pos E] at this;rw[E];exact DJ this
   ·simp only[out,if_neg E] at this
    grind [Bw]
 |region id ops F=>
  simp only[bB] at s
  grind
 |seq c1 c2=>grind [bB]
 |cond o c1 c2=>grind [bB]
 |loop c1=>simp[bB] at s
 |scope b=>grind [bB,Option.map_eq_some_iff,JK]
 |rangeFunc g ps x y=>rcases dS s with ⟨_,_,_,_,_,_,_,e⟩ | e <;> cases e
 |_=>grind [bB]
theorem Sem.loop{b:aP}(k:Nat)(h:kU P b k n al σ Q):Sem P (.loop b) n al σ Q:=by
 intro c i M Fz w j K R A u;cases c with
 |loop c1=>simp only[bB,cy,aP.loop.injEq] at i;obtain ⟨F,z,rfl⟩:=i;exact tu k (h c1 z M Fz w j K R A u)
 |region id ops s=>
  simp only[bB] at i
  grind
 |seq c1 E=>grind [bB]
 |cond o c1 E=>grind [bB]
 |block id c1=>simp[bB] at i
 |scope b=>grind [bB,Option.map_eq_some_iff,JK]
 |rangeFunc g G x y=>rcases dS i with ⟨_,_,_,_,_,_,_,e⟩ | e <;> cases e
 |_=>grind [bB]
theorem kU.succ{b:aP}{k:Nat}(h:Sem P b n al σ λx al1 σ1=>match x with | .normal=>∃al2 aC,Wk σ.length al1 σ1 al2 aC/\kU P b k n al2 aC Q | x=>∃al2 aC,Wk σ.length al1 σ1 al2 aC/\Q x al2 aC):kU P b (k+1) n al σ Q:=by
 intro c hc M Fz w O K R A hK;rw[Jb];refine h c hc M Fz w O _ R A λx al1 σ1 a' w' M' Fz' U z W X Z hl=>?_;cases x with
 |normal=>obtain ⟨al2,aC,j,hs⟩:=U;obtain ⟨E,F,G,o,s,u⟩:=j.use W X Z hl;exact hs c hc E Fz' w' a' K F G λx aa ab a3 w3 M3 ad af ak R3 A3 E3 an=>hK x aa ab a3 w3 M3 ad af (Mk.trans E3 o.size (z.wth u) ak) R3 A3 (o.trans E3 s) (kj s an)
 |exit i=>
  obtain ⟨al2,aC,j,hq⟩:=U;obtain ⟨E,F,G,o,s,u⟩:=j.use W X Z hl;have z:=z.wth u
  grind [pp]
 |ret=>obtain ⟨al2,aC,j,hq⟩:=U;obtain ⟨E,F,G,o,s,u⟩:=j.use W X Z hl;exact hK .ret al2 aC a' w' E Fz' hq (z.wth u) F G o s
theorem Sem.rounds{b:aP}{V:Type}(L:V->AL)(H:V->ar)(p:Nat->V->Prop)(k:Nat)(v:V)(s:p k v)(u:∀v,p 0 v->False)
  (hs:∀k v,p (k+1) v->Sem P b n (L v) (H v) λx al1 σ1=>match x with | .normal=>∃i,p k i/\Wk (H v).length al1 σ1 (L i) (H i) | x=>∃al2 aC,Wk (H v).length al1 σ1 al2 aC/\Q x al2 aC)
  (o:Sub al (L v)) (j:σ=H v):Sem P (.loop b) n al σ Q:=by
 subst j;refine Sem.loop k (kU.pre o ?_);clear o;induction k generalizing v with
 |zero=>simp_all
 |succ k ih=>
  refine kU.succ ((hs k v s).mono λx al1 σ1 z=>⟨al1,σ1,.refl,?_⟩)
  grind
def Jd(P:Program)(orc:fj)(k:Nat)(os:List aG)(n:Nat)(al:AL)(σ:ar)(al':AL)(σ':ar)(is:List dZ):Prop:=
 ∀e,Env n al e->∃a,kY P orc k os e σ=some (a,σ',is)/\Env n al' a
theorem Ed:∀(os:List aG)(e e':List D)(σ σ':ar)(is:List dZ),kY P orc 0 os e σ=some (e',σ',is)->jJ P orc os e σ=some (e',σ',is.flatMap (·.wr)):=by
 intro os;induction os with
 |nil=>intro e e' σ σ' is h;simp only[kY,au,aS] at h;obtain ⟨rfl,rfl,rfl⟩:=h;rfl
 |cons o os ih=>grind [kY,jJ,dx]
theorem Sem.Bc(i:P.follows .mixedOrders=true)(O:lN P orc){os:List aG}{is:List dZ}(h:Jd P orc 0 os n al σ al1 σ1 is)(j:Q .normal al1 σ1):Sem P (.Bc os) n al σ Q:=by intro c o M Fz w a K R A s;obtain ⟨e',u,z⟩:=h _ A.c_.2;have E:=Ed _ _ _ _ _ _ u;have:Sem P (.Bc os) n al σ Q:=Sem.Eg i O (k:=1) (wr:=[]) (e:=wV n al) (e':=e') (x:=.normal) (σ':=σ1) (wr':=is.flatMap (·.wr)++[]) (by grind [kD]) rfl z j;exact this c o M Fz w a K R A s
theorem Sem.Hb(j:P.follows .mixedOrders=true)(O:lN P orc){os:List aG}{i:List Nat}{k p:Nat}{is:List dZ}(h:Jd P orc k os n al σ al1 σ1 is)(F:(eH i is&&mU i p k os.length&&Nat.ble p k)=true)(o:Q .normal al1 σ1) :
  Sem P (.Hb os i k p) n al σ Q:=by
 intro c s M Fz w a K R A u;obtain ⟨e',G,z⟩:=h _ A.c_.2;have E:jN P orc os i p k (wV n al) σ=some (e',σ1,is.flatMap (·.wr)):=by
  unfold jN
  simp_all
 have:Sem P (.Hb os i k p) n al σ Q:=Sem.Eg j O (k:=1) (wr:=[]) (e:=wV n al) (e':=e') (x:=.normal) (σ':=σ1) (by simp only[kD,E];rfl) rfl z o;exact this c s M Fz w a K R A u
theorem Mc:∀(os:List aG)(n m:Nat)(e:List D)(σ:ar)(r a:List D×ar×List dZ),kY P orc n os e σ=some r->kY P orc m os e σ=some a->r=a:=by
 intro os;induction os with
 |nil=>grind [kY]
 |cons o os ih=>grind [kY]
theorem Sem.drwN(j:P.follows .mixedOrders=true)(O:lN P orc){os:List aG}{i:List Nat}{k p:Nat}{is:List dZ}(h:Jd P orc os.length os n al σ al1 σ1 is)(Z:(eH i is&&mU i p os.length os.length&&Nat.ble p os.length)=true)(u:Q .normal al1 σ1) :
  Sem P (.Hb os i k p) n al σ Q:=by
 intro c z M Fz w a K R A E;obtain ⟨e',F,G⟩:=h _ A.c_.2;have U:∀m r,jN P orc os i p m (wV n al) σ=some r->r=(e',σ1,is.flatMap (·.wr)):=by
  intro m r o;unfold jN at o;split at o
  ·rename_i e2 aC W s;have:=Mc _ _ _ _ _ _ _ s F
   simp_all
  simp_all
 have s:jN P orc os i p os.length (wV n al) σ=some (e',σ1,is.flatMap (·.wr)):=by
  unfold jN
  simp_all
 have X:kD P orc 1 (.Hb os i k p) (wV n al) σ []=some (.normal,e',σ1,is.flatMap (·.wr)++[]):=by grind [kD]
 have:Sem P (.Hb os i k p) n al σ Q:=Sem.Eg j O (k:=1) (wr:=[]) (e:=wV n al) (e':=e') (x:=.normal) (σ':=σ1) X rfl G u;exact this c z M Fz w a K R A E
end
end Go.Abs
end
section
namespace Go.Abs
variable[Gl]
open Go.RowKit
def Pure(P:Program)(g:FuncId)(ds:List D)(r:D):Prop:=aU P g=true/\Ok P g ds [] r []
section
variable{P:Program}{σ σ':ar}{M M':Nat->Option Nat}{Fz Fz':Nat->Prop}{w w':World}
theorem V.data{d:D}{v:Value}(h:V σ M Fz w d v)(hl:d.low 0=true)(σ':ar)(M':Nat->Option Nat):V σ' M' Fz w d v:=by
 induction h with
 |c h=>exact .c h
 |any v=>exact .any v
 |ptr a A h u j=>grind [D.low]
 |sl a n cap E A h u j=>grind [D.low]
 |mp c A h j=>grind [D.low]
 |fn o F s G j K x z=>simp only[D.low,bI] at hl;exact .fn o F s G (λi d v a b=>x i d v a b (D.aZ hl.1 i d a)) (λi d v a b=>z i d v a b (D.aZ hl.2 i d a))
 |agg o s j ih=>simp only[D.low] at hl;exact .agg o s (λi d v a b=>ih i d v a b (D.aZ hl i d a))
 |aT o s j ih=>simp only[D.low] at hl;exact .aT o s (λi d v a b=>ih i d v a b (D.aZ hl i d a))
def D.ground:D->Bool
 |.c (.lit _)=>true
 |.agg ds=>gM ds
 |.aT ds=>gM ds
 |_=>false
where gM:List D->Bool
 |[]=>true
 |d::ds=>d.ground&&gM ds
theorem D.BB:∀{ds:List D},D.ground.gM ds=true->∀(i:Nat) d,ds[i]? = some d->d.ground=true:=by
 intro ds;induction ds with
 |nil=>simp_all
 |cons x ds ih=>
  intro h i d hi;simp only[D.ground.gM,bI] at h
  grind
theorem V.lit{d:D}{v:Value}(h:V σ M Fz w d v)(hl:d.ground=true)(σ':ar)(M':Nat->Option Nat)(Fz':Nat->Prop)(w':World):V σ' M' Fz' w' d v:=by
 induction h with
 |c h=>
  rename_i x v;cases x with
  |lit u=>cases h;exact .c (.lit _)
  |_=>grind [D.ground]
 |any v=>grind [D.ground]
 |ptr a A h z j=>grind [D.ground]
 |sl a n cap E A h z j=>grind [D.ground]
 |mp c A h j=>grind [D.ground]
 |fn o K s O j R F G=>grind [D.ground]
 |agg o s j ih=>simp only[D.ground] at hl;exact .agg o s (λi d v a b=>ih i d v a b (D.BB hl i d a))
 |aT o s j ih=>simp only[D.ground] at hl;exact .aT o s (λi d v a b=>ih i d v a b (D.BB hl i d a))
theorem Pure.data{g:FuncId}{ds:List D}{r:D}(h:Pure P g ds r)(F:ds.all (D.low 0)=true)(G:r.low 0=true):Ok P g ds σ r σ:=by
 intro M Fz w K R hs u;have O:Rel [] (λ_=>none) Fz w:=⟨λb c h=>by simp at h,λb b' c h=>by simp at h,R.fz,R.gl⟩;refine (h.2 _ Fz w K O hs λi d v a b=>(u i d v a b).data (iE.1 F d (yP a)) _ _).mono λe w' U=>?_;obtain ⟨v,M',Fz',rfl,A,W,j⟩:=U;have hb:∀c:Nat,c<w.heap.size->w'.heap[c]? = w.heap[c]?:=λc s=>j.frame c s (λb h=>by simp at h);have E:bD σ M Fz w σ M Fz' w':={
  size:=j.size
  frame:=λc s _=>hb c s
  lE:=λb c h=>.inl ⟨b,h⟩
  fz:=j.fz
  nj:=λc h=>by
   rcases j.nj c h with h | ⟨b,h⟩ | h
   ·simp_all
   ·simp at h
   omega
  pU:=λc x T fr h=>⟨x,by grind,rfl⟩
  keep:=λb z h=>⟨z,h,cO _,λ_=>rfl⟩
  out:=j.out }
 refine ⟨v,M,Fz',rfl,⟨λb c h=>?_,R.inj,A.fz,A.gl⟩,W.data G _ _,E⟩;obtain ⟨h1,z,o,X,h3,Z⟩:=R.blk b c h;have s:=(R.lt h).2;refine ⟨λhf=>?_,z,o,X,by simp_all,Z.mono E⟩;rcases j.nj c hf with h | ⟨b,h⟩ | h
 ·grind
 ·simp at h
 ·omega
theorem Pure.lend{g:FuncId}{ds j:List D}{r:D}(h:Pure P g j r)(s:ds.mapM (vF σ 0 100)=some j)(u:r.ground=true):Ok P g ds σ r σ:=by
 intro M Fz w x R hs z;have A:Rel [] (λ_=>none) (FT M Fz 0) w:=⟨λb c h=>by simp at h,λb G c h=>by simp at h,λc h=>by
  rcases h with h | ⟨b,_,h⟩
  ·exact R.fz c h
  ·exact (R.lt h).2,Gl.mono (λc h=>⟨.inl h,rfl⟩) R.gl⟩
 have hl:j.length=ds.length:=(JY s).1;refine (h.2 _ _ w x A (by omega) λi d v a b=>?_).mono λe w' E=>?_
 ·grind [JY,IA]
 ·obtain ⟨v,M',Fz',rfl,K,F,o⟩:=E;have hb:Below w.heap.size w w':=⟨o.out.1,o.out.2.1,o.out.2.2,o.size,λk hk=>o.frame k hk (λb h=>by simp at h)⟩;exact ⟨v,M,Fz,rfl,R.below hb,F.lit u _ _ _ _,bD.below R hb⟩
end
def nrmC:C->C
 |.lit (.slice none 0 0)=>.cD false []
 |.cD _ a=>.cD false a
 |x=>x
def wo:D->D
 |.c x=>.c (nrmC x)
 |d=>d
def Ca:D->D
 |.c x=>.c (nrmC x)
 |.agg ds=>.agg (ds.map wo)
 |d=>d
theorem Jy{Fz:Nat->Prop}{w:World}{x:C}{v:Value}(h:VC Fz w x v):VC Fz w (nrmC x) v:=by
 unfold nrmC;split
 ·cases h;exact .cD (es:=[]) 0 none 0 (by simp) (λ_=>rfl) (λ_ _=>undef) (by simp) (by simp) (by simp) (by simp)
 ·cases h with
  |cD aA a cap j l c i b m o=>exact .cD aA a cap (by simp) l c i b m o
 omega
theorem HO{σ:ar}{M:Nat->Option Nat}{Fz:Nat->Prop}{w:World}{d:D}{v:Value}(h:V σ M Fz w d v):V σ M Fz w (wo d) v:=by
 unfold wo;split
 ·cases h with | c h=>exact .c (Jy h)
 omega
theorem Eo{σ:ar}{M:Nat->Option Nat}{Fz:Nat->Prop}{w:World}{d:D}{v:Value}(h:V σ M Fz w d v):V σ M Fz w (Ca d) v:=by
 unfold Ca;split
 ·cases h with | c h=>exact .c (Jy h)
 ·cases h with
  |agg j l m=>
   refine .agg j (by simp_all) (λi d v a b=>?_)
   grind [HO]
 omega
theorem Ok.Ca{P:Program}{g:FuncId}{ds:List D}{σ σ':ar}{r:D}(h:Ok P g (ds.map Ca) σ r σ'):Ok P g ds σ r σ':=by
 intro M Fz w j R hs o;refine h M Fz w j R (by simp_all) λi d v a b=>?_
 grind [Eo]
abbrev xe:=List (Nat×(List D->Option D))
def Vl(g:Nat):xe->Option (List D->Option D)
 |[]=>none
 |(s,f)::l=>match Nat.beq s g with | true=>some f | false=>Vl g l
def D.plain:D->Bool
 |.fn ..=>false
 |.agg ds=>ds.all λd=>match d with | .fn ..=>false | _=>true
 |.aT ds=>ds.all λd=>match d with | .fn ..=>false | _=>true
 |_=>true
def Cj(S:xe):wx:=λg ds σ=>
 match Vl g S with
 |none=>none
 |some f=>
  if ds.all (λd=>d.low 0&&d.plain) then (f (ds.map Ca)).bind λr=>if r.low 0 then some (r,σ,[]) else none
  else
   match ds.mapM (vF σ 0 100) with
   |some a=>(f (a.map Ca)).bind λr=>if r.ground then some (r,σ,[]) else none
   |none=>none
def qu(P:Program)(S:xe):Prop:=∀p∈S,∀ds r,p.2 ds=some r->Pure P p.1 ds r
theorem spk_mem{g:Nat}{f:List D->Option D}:∀{S:xe},Vl g S=some f->(g,f)∈S:=by
 intro S;induction S with
 |nil=>grind [Vl]
 |cons p S ih=>grind [Vl,Nat.eq_of_beq_eq_true]
theorem VA{m:Nat}{d:D}(h:d.low m=true):(wo d).low m=true:=by unfold wo;grind [D.low]
theorem Zp{m:Nat}:∀{ds:List D},D.low.cU m ds=true->D.low.cU m (ds.map wo)=true:=by
 intro ds;induction ds with
 |nil=>simp_all
 |cons d ds ih=>intro h;simp only[D.low.cU,bI,ql] at h ⊢;grind [VA]
theorem low_nrm{m:Nat}{d:D}(h:d.low m=true):(Ca d).low m=true:=by
 unfold Ca
 grind [D.low,Zp]
theorem mX{P:Program}{S:xe}(h:qu P S):rA P (Cj S):=by
 intro g ds σ r σ' wr a;unfold Cj at a;split at a
 ·grind
 ·rename_i f x;have s:=spk_mem x;split at a
  ·rename_i hl;rw[cZ] at a;obtain ⟨u,j,b⟩:=a;split at b
   ·rename_i l;simp only[au,aS] at b;obtain ⟨rfl,rfl,rfl⟩:=b;have i:=h _ s _ _ j;refine ⟨i.1,(i.data ?_ l).Ca,cO _,λ_ _ _=>rfl⟩;rw[iE] at hl ⊢;intro d v;rw[iP] at v;obtain ⟨y,z,rfl⟩:=v;have:=hl y z;rw[bI] at this
    grind [low_nrm]
   simp_all
  ·split at a
   ·rename_i m o;rw[cZ] at a;obtain ⟨u,j,b⟩:=a;split at b
    ·rename_i l;simp only[au,aS] at b;obtain ⟨rfl,rfl,rfl⟩:=b;have i:=h _ s _ _ j;have p:Pure P g m u:=⟨i.1,i.2.Ca⟩;exact ⟨i.1,p.lend o l,cO _,λ_ _ _=>rfl⟩
    simp_all
   simp_all
noncomputable def spec{A R:Type}(args:A->List D)(Tx:R->D)(f:A->Option R):List D->Option D:=λds=>open Classical in if h:∃a,args a=ds then (f (Classical.choose h)).map Tx else none
theorem Sf{A R:Type}{args:A->List D}{Tx:R->D}{f:A->Option R}(inj:∀a b,args a=args b->a=b){a:A}{r:R}(h:f a=some r):spec args Tx f (args a)=some (Tx r):=by
 have i:∃b,args b=args a:=⟨a,rfl⟩;unfold spec
 grind
theorem spec_ok{P:Program}{g:Nat}{A R:Type}{args:A->List D}{Tx:R->D}{f:A->Option R}(H:∀a r,f a=some r->Pure P g (args a) (Tx r)):∀ds r,spec args Tx f ds=some r->Pure P g ds r:=by
 intro ds r h;unfold spec at h;split at h
 ·grind [Option.map_eq_some_iff]
 simp_all
theorem zw{S:xe}{g:Nat}{F:List D->Option D}{ds a:List D}{σ:ar}{r:D}(b:Vl g S=some F)(hl:(ds.all λd=>d.low 0&&d.plain)=true)(i:ds.map Ca=a)(h:F a=some r)(j:r.low 0=true) :
  Cj S g ds σ=some (r,σ,[]):=by
 subst i;simp only[Cj,b,hl,if_true,h,aw,j]
theorem HT{S:xe}{g:Nat}{F:List D->Option D}{ds a b:List D}{σ:ar}{r:D}(i:Vl g S=some F)(hl:(ds.all λd=>d.low 0&&d.plain)=false)(j:ds.mapM (vF σ 0 100)=some a)(l:a.map Ca=b)(h:F b=some r)(m:r.ground=true) :
  Cj S g ds σ=some (r,σ,[]):=by
 subst l;simp only[Cj,i,hl,bX,cr,j,h,aw,m,if_true]
def Tp:D->D
 |.aT ds=>.aT (ds.map Ca)
 |d=>Ca d
theorem ED.Tp(d:D):ED d (Tp d):=by
 intro σ M Fz w v h;unfold Go.Abs.Tp;split
 ·cases h with
  |aT j o s=>
   refine .aT j (by simp_all) (λi d v a b=>?_)
   grind [Eo]
 grind [Eo]
theorem ED.PK{d i:D}(h:Go.Abs.Tp d=i):ED d i:=h▸ED.Tp d
theorem qu.nil{P:Program}:qu P []:=λp i=>by grind
theorem qu.cons{P:Program}{g:Nat}{F:List D->Option D}{S:xe}(h:∀ds r,F ds=some r->Pure P g ds r)(j:qu P S):qu P ((g,F)::S):=by
 intro p i;rcases gu.1 i with rfl | i
 ·exact h
 ·exact j p i
def oI(al:AL)(σ:ar):Nat×Option (Option Nat)->Option D
 |(t,none)=>lk t al
 |(t, some n)=>
  match lk t al with
  |some (.ptr b off sz)=>(nQ σ b sz).bind λa=>uM n a off
  |_=>none
def jX:Nat->List D->AL
 |_,[]=>[]
 |i,d::ds=>(i,d)::jX (i+1) ds
theorem Ez:∀(ds:List D)(i t:Nat)(d:D),lk t (jX i ds)=some d->i<=t/\ds[t-i]? = some d:=by
 intro ds;induction ds with
 |nil=>grind [jX,lk]
 |cons x ds ih=>
  intro i t d h;simp only[jX,lk] at h;split at h
  ·simp_all
  grind
theorem uq{P:Program}{g:FuncId}{fn:Func}{m:kN}{fz:Bool}{ds:List D}{r:D}(hg:P.funcs[g]? = some fn)(s:aU P g=true)(u:il P fn fz=some m)
  (y:ds.length<=m.ntmps)
  (h:Sem P m.body m.ntmps (jX 0 ds) [] λx al σ=>(x=.normal\/x=.ret)/\∃a F,m.results.mapM (oI al σ)=some a/\vF σ 0 100 (one a)=some F/\ED F r):Pure P g ds r:=by
 refine ⟨s,?_⟩;unfold il at u;split at u
 ·rename_i c hb;split at u
  ·rename_i ac rs h1 h2;simp only[au] at u;subst u;dsimp only at h y;intro M Fz w j R hs G;refine mH hg hb ?_;have A0:dX fn.ntmps [] M Fz w (jX 0 ds) (j++Array.replicate (fn.ntmps-j.size) undef):=by
    refine ⟨by simp_all,λt d K=>?_⟩;obtain ⟨_,h3⟩:=Ez ds 0 t d K;rw[yC2] at h3;have L:t<j.size:=by grind
    exact ⟨j[t],by grind,G t d _ h3 (qo L)⟩
   refine Le (h c h1 M Fz w { tmps:=j++Array.replicate (fn.ntmps-j.size) undef,defers:=[] } _ R A0 λx al' σ' a' w' M' Fz' hQ hd R' E EV hl=>?_);obtain ⟨hx,a,F,hm,N,O⟩:=hQ;have S:rs.mapM (Ls (wV fn.ntmps al') σ')=some a:=by
    have ad:∀(l:List (Nat×Option (Option Nat))) a,l.mapM (oI al' σ')=some a->l.mapM (Ls (wV fn.ntmps al') σ')=some a:=by
     intro l;induction l with
     |nil=>simp_all
     |cons p l ih=>
      intro a h;rw[Uq] at h ⊢;cases z:oI al' σ' p with
      |none=>simp_all
      |some d=>
       rw[z] at h;have:Ls (wV fn.ntmps al') σ' p=some d:=by
        obtain ⟨t,o⟩:=p;cases o with
        |none=>exact E.c_.2.2 t d z
        |some k=>
         simp only[oI] at z;split at z
         ·rename_i b off sz T;simp only[Ls,E.c_.2.2 t _ T];exact z
         simp_all
       rw[this];cases hr:l.mapM (oI al' σ') with
       |none=>simp_all
       |some q=>simp_all
    simp_all
   have U:yk x=.normal\/yk x=.ret:=by rcases hx with rfl | rfl <;> simp[yk]
   refine ⟨U,Mk.end hd R' EV λW i A mv=>?_⟩;have X:dX fn.ntmps σ' M' Fz' W al' a'.tmps:=⟨E.1,λt d K=>by obtain ⟨v,q1,q2⟩:=E.2 t d K;exact ⟨v,q1,mv d v q2⟩⟩
   obtain ⟨v,Z,aa⟩:=iT (P:=P) i X.c_.1 h2 S;obtain ⟨R2,ab⟩:=Rel.forget R i A (λb hb=>by grind);exact ⟨v,Z,v,_,_,rfl,R2,O _ _ _ _ _ (IA i N aa _ _),ab⟩
  simp_all
 simp_all
end Go.Abs
namespace Go.Abs
variable[Gl]
theorem VQ{P:Program}{g:FuncId}{es:List (List C)}{r:D}(p:∀e∈es,e≠[])(s:Pure P g [.c (.cD true es)] r)(G:es=[]->Pure P g [.c (.lit (.slice none 0 0))] r):Pure P g [.c (.cD false es)] r:=by
 refine ⟨s.1,λM Fz w b R hs K=>?_⟩;have u:b[0]? = some (b[0]'(by simp_all)):=qo _;have h:=K 0 _ _ rfl u;generalize O:b[0]'(by simp_all)=x at h u;have only:∀d,V [] M Fz w d x->∀(i:Nat) z v,[d][i]? = some z->b[i]? = some v->V [] M Fz w z v:=by grind
 cases h with
 |c A=>
  generalize E:C.cD false es=y at A;cases A with
  |cD aA a cap L F c l j m o=>
   simp only[C.cD.injEq] at E;obtain ⟨rfl,rfl⟩:=E;cases a with
   |some a=>exact s.2 M Fz w b R hs (only _ (.c (.cD aA (some a) cap (λ_=>rfl) F c l j m o)))
   |none=>
    have N:es=[]:=by simp_all
    subst N;have:=F rfl;subst this;exact (G rfl).2 M Fz w b R hs (only _ (.c (.lit _)))
  |_=>grind
end Go.Abs
end
section
namespace Go.Abs
variable[Gl]
abbrev I(n:Int):D:=.c (.lit (.int .i64 n))
abbrev B(b:Bool):D:=.c (.lit (.bool b))
def lx(al:AL):aQ->Option D
 |.t k=>lk k al
 |.k d=>some d
def Ai(al:AL)(x:Operand):Option D:=
 match ce x with
 |some o=>lx al o
 |none=>none
def Vg(al:AL):List aQ->Option (List D)
 |[]=>some []
 |x :: xs => match lx al x, Vg al xs with
  |some d,some ds=>some (d::ds)
  |_,_=>none
def eT(P:Program)(orc:wx)(n:Nat)(al:AL)(σ:ar)(op:kE)(d:D)(σ1:ar)(w:List Nat):Prop:=∀e,Env n al e->bp P orc op e σ=some (d,σ1,w)
def aE{α:Type}(l:List α)(i:Int):Option α:=if 0<=i/\i<l.length then l[i.toNat]? else none
section
variable{P:Program}{orc:wx}{n:Nat}{al:AL}{σ σ1:ar}{w:List Nat}{d d1 d2:D}{e:List D}
theorem fF(a:Env n al e){x:aQ}(h:lx al x=some d):x.ev e=d:=by
 cases x with
 |t k=>simp only[lx] at h;simp[aQ.ev,a.2 k d h]
 |k b=>simp only[lx,au] at h;subst h;rfl
theorem JU(a:Env n al e):∀{xs:List aQ}{ds:List D},Vg al xs=some ds->xs.map (aQ.ev e)=ds:=by
 intro xs;induction xs with
 |nil=>grind [Vg]
 |cons x xs ih=>grind [Vg,fF]
theorem zR{x:aQ}(h:lx al x=some d):eT P orc n al σ (.Ag x) d σ []:=λe a=>by grind [bp,fF]
theorem uO{c x y:aQ}{b:Bool}(a:lx al c=some (B b))(hb:b=true)(h:lx al x=some d):eT P orc n al σ (.pick c x y) d σ []:=λe i=>by grind [bp,gD,fF]
theorem pY{c x y:aQ}{b:Bool}(a:lx al c=some (B b))(hb:b=false)(h:lx al y=some d):eT P orc n al σ (.pick c x y) d σ []:=λe i=>by grind [bp,gD,fF]
def iw(P:Program)(o:BinOp)(t:TypeId)(x y:Operand)(a b:Value):Option Value:=fq P (do eqGuard o t x y a b;binOp o t a b)
theorem wU{α b:Type}{s:Go.Sem α}{f:α->Go.Sem b}:fq P (s >>= f)=(fq P s).bind λa=>fq P (f a):=by
 induction s with
 |pure a=>rfl
 |program k ih=>exact ih P
 |_=>rfl
theorem dR{o:BinOp}{t ty j:TypeId}{x y:Operand}{a b v:Value}(A:Ai al x=some d1)(E:Ai al y=some d2)(F:d1.cW = some a)(G:d2.cW = some b)
  (h:iw P o t x y a b=some v) (s:dH v=d):eT P orc n al σ (.gen (.binOp o t x y j) ty) d σ []:=λe K=>by
 subst s;have L:∀{x:Operand}{d:D},Ai al x=some d->((ce x).map (aQ.ev e))=some d:=by grind [Ai,fF]
 have N:((ce x).map (aQ.ev e)).bind D.cW = some a:=by grind
 have O:((ce y).map (aQ.ev e)).bind D.cW = some b:=by grind
 have:nJ P (.binOp o t x y j) ty e=some (dH v):=by
  unfold nJ;have i:(Op.binOp o t x y j).operands.toList.all (λx=>(((ce x).map (aQ.ev e)).bind D.cW).isSome)=true:=by grind [Go.Op.operands]
  rw[if_pos i];have u:fq P (execOp (λx=>((((ce x).map (aQ.ev e)).bind D.cW).getD undef)) { dst:=none,op:=.binOp o t x y j,type:=ty,pos:="",after:=#[],guard:=none })=some (.value v):=by
   have p:∀l m:Value,l=a->m=b->fq P (do let r <-(do eqGuard o t x y l m;binOp o t l m);Go.Sem.pure (Next.value r))=some (.value v):=by intro l m z hb;subst z hb;rw[wU];unfold iw at h;rw[h];rfl
   exact p _ _ (by simp_all) (by simp_all)
  rw[u]
 grind [bp]
theorem YX{o:UnOp}{t ty:TypeId}{x:Operand}{a v:Value}(u:Ai al x=some d1)(y:d1.cW = some a)
  (h:fq P (Op.unary o a)=some v) (l:dH v=d):eT P orc n al σ (.gen (.unOp o t x) ty) d σ []:=λe z=>by
 subst l;have A:((ce x).map (aQ.ev e))=some d1:=by grind [Ai,fF]
 have m:((ce x).map (aQ.ev e)).bind D.cW = some a:=by grind
 have:nJ P (.unOp o t x) ty e=some (dH v):=by
  unfold nJ;have b:(Op.unOp o t x).operands.toList.all (λx=>(((ce x).map (aQ.ev e)).bind D.cW).isSome)=true:=by simp[Op.operands,m]
  rw[if_pos b];have p:fq P (execOp (λx=>((((ce x).map (aQ.ev e)).bind D.cW).getD undef)) { dst:=none,op:=.unOp o t x,type:=ty,pos:="",after:=#[],guard:=none })=some (.value v):=by
   have i:∀j:Value,j=a->fq P (do let r <-Op.unary o j;Go.Sem.pure (Next.value r))=some (.value v):=by intro j s;subst s;rw[wU,h];rfl
   exact i _ (by simp_all)
  rw[p]
 grind [bp]
theorem CH{t b ty:TypeId}{x:Operand}{a v:Value}(u:Ai al x=some d1)(y:d1.cW = some a)
  (h:fq P (convert t b a)=some v) (m:dH v=d):eT P orc n al σ (.gen (.convert t b x) ty) d σ []:=λe z=>by
 subst m;have A:((ce x).map (aQ.ev e))=some d1:=by grind [Ai,fF]
 have o:((ce x).map (aQ.ev e)).bind D.cW = some a:=by grind
 have:nJ P (.convert t b x) ty e=some (dH v):=by
  unfold nJ;have i:(Op.convert t b x).operands.toList.all (λx=>(((ce x).map (aQ.ev e)).bind D.cW).isSome)=true:=by simp[Op.operands,o]
  rw[if_pos i];have p:fq P (execOp (λx=>((((ce x).map (aQ.ev e)).bind D.cW).getD undef)) { dst:=none,op:=.convert t b x,type:=ty,pos:="",after:=#[],guard:=none })=some (.value v):=by
   have j:∀l:Value,l=a->fq P (do let r <-convert t b l;Go.Sem.pure (Next.value r))=some (.value v):=by intro l s;subst s;rw[wU,h];rfl
   exact j _ (by simp_all)
  rw[p]
 grind [bp]
theorem op_box{x:aQ}{cs:List D}(h:lx al x=some d)(a:d.cells? = some cs)(b:D.ptr σ.length 0 cs.length=d1)(hs:σ++[.cells cs]=σ1):eT P orc n al σ (.box x) d1 σ1 []:=λe i=>by grind [bp,fF]
theorem Lw{z:List D}(a:D.ptr σ.length 0 z.length=d1)(hs:σ++[.cells z]=σ1):eT P orc n al σ (.alloc z) d1 σ1 []:=λe b=>by grind [bp]
def Bv(al:AL):List D->List (Nat×Nat×aQ)->Option (List D)
 |a,[]=>some a
 |a, (o, n, x) :: rest=>
  match (lx al x).bind D.cells? with
  |some b=>if b.length≠n\/o+n > a.length then none else Bv al (put a o b) rest
  |none=>none
theorem KD(i:Env n al e):∀{ps:List (Nat×Nat×aQ)}{cs a:List D},Bv al cs ps=some a->pZ e cs ps=some a:=by
 intro ps;induction ps with
 |nil=>intro cs a h;exact h
 |cons p ps ih=>
  intro cs a h;obtain ⟨o,m,x⟩:=p;simp only[Bv] at h;split at h
  ·rename_i r b;rw[cZ] at b;obtain ⟨d,j,l⟩:=b;simp only[pZ,fF i j,l,eR,aw]
   simp_all
  simp_all
theorem Yq{z cs:List D}{ps:List (Nat×Nat×aQ)}(h:Bv al z ps=some cs):eT P orc n al σ (.build z ps) (.agg cs) σ []:=λe a=>by grind [bp,KD]
theorem Gf{z cs:List D}{aA len:Nat}{ps:List (Nat×Nat×aQ)}(h:Bv al (dG len z) ps=some cs)(a:D.sl σ.length 0 len aA cs.length=d1)(hs:σ++[.cells cs]=σ1):eT P orc n al σ (.jf aA len z ps) d1 σ1 []:=λe b=>by grind [bp,KD]
theorem qQ{m:Option Nat}{a:aQ}{b off sz:Nat}{cs:List D}(h:lx al a=some (.ptr b off sz))(i:nQ σ b sz=some cs)(j:uM m cs off=some d):eT P orc n al σ (.load m a) d σ []:=λe l=>by grind [bp,fF]
theorem DB{m:Option Nat}{a:aQ}{off:Nat}{cs:List C}(h:lx al a=some (.c (.cz cs off)))(b:uM m (cs.map .c) off=some d):eT P orc n al σ (.load m a) d σ []:=λe i=>by grind [bp,fF]
theorem Dp{m:Nat}{a x:aQ}{b off sz:Nat}{cs xs:List D}(h:lx al a=some (.ptr b off sz))(i:nQ σ b sz=some cs)(j:lx al x=some d)(l:d.cells? = some xs)(hm:xs.length=m/\off+m<=sz)(hs:σ.set b (.cells (put cs off xs))=σ1) :
  eT P orc n al σ (.store m a x) (.aT []) σ1 [b]:=λe o=>by
 grind [bp,fF]
theorem MT{x:aQ}{b off sz:Nat}(h:lx al x=some (.ptr b off sz)):eT P orc n al σ (.me x) (.ptr b off sz) σ []:=λe a=>by grind [bp,fF]
theorem fi{k:Nat}{neg:Bool}{x:aQ}{b:Bool}(h:lx al x=some d)(hb:isNil k d=some b):eT P orc n al σ (.iR k neg x) (B (if neg then !b else b)) σ []:=λe a=>by grind [bp,fF]
theorem Jw{o:Nat}{x:aQ}{b off sz:Nat}(h:lx al x=some (.ptr b off sz)):eT P orc n al σ (.Gz o x) (.ptr b (off+o) sz) σ []:=λe a=>by grind [bp,fF]
theorem op_fldf{o:Nat}{x:aQ}{cs:List C}{off:Nat}(h:lx al x=some (.c (.cz cs off))):eT P orc n al σ (.Gz o x) (.c (.cz cs (off+o))) σ []:=λe a=>by grind [bp,fF]
theorem nR{α:Type}{l:List α}{i:Int}{a:α}(h:aE l i=some a):0<=i/\i<l.length/\l[i.toNat]? = some a:=by grind [aE]
theorem Xb{α:Type}{aA:Nat}{x i:aQ}{nn:Bool}{l:List α}{f:α->List C}{k:Int}{a:α}(h:lx al x=some (.c (.cD nn (l.map f))))(hi:lx al i=some (I k))(j:aE l k=some a)(hl:(f a).length=aA) :
  eT P orc n al σ (.idx aA none x i) (.c (.cz (f a) 0)) σ []:=λe b=>by
 obtain ⟨p,r,m⟩:=nR j;have o:BH k (l.map f).length=some k.toNat:=by unfold BH;simp_all
 simp only[bp,fF b h,fF b hi,tf,eR,aw,o,lJ,m,Ch,hl,if_true]
theorem Wb{α:Type}{x:aQ}{nn:Bool}{l:List α}{f:α->List C}(h:lx al x=some (.c (.cD nn (l.map f)))):eT P orc n al σ (.len x) (I l.length) σ []:=λe a=>by grind [bp,JX,fF]
theorem op_len0{x:aQ}(h:lx al x=some (.c (.lit (.slice none 0 0)))):eT P orc n al σ (.len x) (I 0) σ []:=λe a=>by grind [bp,JX,fF]
theorem Dx{x:aQ}{i:Nat}{ds:List D}(h:lx al x=some (.aT ds))(a:ds[i]? = some d):eT P orc n al σ (.extract x i) d σ []:=λe b=>by grind [bp,fF]
theorem aal{m:Option Nat}{off:Nat}{x:aQ}{cs:List D}(h:lx al x=some (.agg cs))(a:uM m cs off=some d):eT P orc n al σ (.part off m x) d σ []:=λe b=>by grind [bp,fF]
theorem HW{g:FuncId}{f:aQ}{args:List aQ}{ds:List D}(a:lx al f=some (.c (.fn (.func g) [] [])))(b:Vg al args=some ds)(h:orc g ds σ=some (d,σ1,w)):eT P orc n al σ (.call f args) d σ1 w:=λe i=>by grind [bp,fF,JU]
def Di(o:aG)(c:Nat)(blk:Option Nat)(w:List Nat)(lo hi:Nat):dZ:={ cat:=c,blk:=blk,wr:=w,dst:=o.dst,rds:=yr o,lo:=lo,hi:=hi }
def Gd(al:AL)(g:Option (Nat×Bool))(b:Bool):Prop:=∀n e,Env n al e->gZ e g=some b
theorem ib:Gd al none true:=λ_ _ _=>rfl
theorem iB{t:Nat}{a b:Bool}(h:lk t al=some (B b))(hb:b=a):Gd al (some (t,a)) true:=λn e i=>by simp[gZ,i.2 t _ h,hb]
theorem Pm{t:Nat}{a b:Bool}(h:lk t al=some (B b))(hb:b=!a):Gd al (some (t,a)) false:=λn e i=>by simp[gZ,i.2 t _ h,hb]
theorem Rc{t:Nat}{a:Bool}(h:lk t al=some (.aT [])):Gd al (some (t,a)) false:=λn e b=>by simp[gZ,b.2 t _ h]
def yl(al:AL):kE->Option Nat
 |.load _ x=>match lx al x with | some (.ptr b _ _)=>some b | _=>none
 |_=>none
def Fv(al:AL):kE->Bool
 |.load _ x=>(lx al x).isSome
 |_=>true
theorem blk_ok(b:Env n al e){o:aG}(h:Fv al o.op=true)(a hi:Nat):(dx o e a hi w).blk=yl al o.op:=by
 obtain ⟨t,op,g⟩:=o;cases op with
 |load m x=>grind [Fv,Option.isSome_iff_exists,dx,Wc,yl,fF]
 |_=>rfl
theorem Jf(i:Env n al e){o:aG}{b:Bool}(m:∀n e,Env n al e->gZ e o.g=some b)(h:Fv al o.op=true)(a hi:Nat):dx o e a hi w=Di o (if b then cat o.op else 0) (yl al o.op) w a hi:=by
 have j:=blk_ok (w:=w) i h a hi;have l:(dx o e a hi w).cat=if b then cat o.op else 0:=by grind [dx]
 unfold Di;rw[<-j,<-l];rfl
theorem Qs(a:Env n al e){t:Nat}(i:t<n)(d:D):Env n ((t,d)::al) (e.set t d):=by
 refine ⟨by simp[a.1],λs j h=>?_⟩;simp only[lk] at h;split at h
 ·rename_i hb;have:=dd hb;simp only[au] at h;subst this h;rw[xAd (by rw[a.1];exact i)]
 ·rename_i hb;have b:t≠s:=λl=>by simp_all
  rw[yCm b];exact a.2 s j h
variable{k:Nat}{os:List aG}{al':AL}{σ':ar}{is:List dZ}{t:Nat}{ao:kE}{g:Option (Nat×Bool)}
theorem Jd.nil{i:fj}:Jd P i k [] n al σ al σ []:=λe j=>⟨e,rfl,j⟩
theorem Jd.op{j:fj}(h:eT P (j (some t)) n al σ ao d σ1 w)(s:Gd al g true)(hs:(Nat.blt t n&&Fv al ao&&(k == 0 || ko σ σ1 w))=true)(r:Jd P j (k-1) os n ((t,d)::al) σ1 al' σ' is) :
  Jd P j k (⟨some t,ao,g⟩::os) n al σ al' σ' (Di ⟨some t,ao,g⟩ (cat ao) (yl al ao) w σ.length σ1.length::is):=λe i=>by
 simp only[bI] at hs;obtain ⟨⟨x,z⟩,A⟩:=hs;obtain ⟨E,F,G⟩:=r _ (Qs i (tc.mp x) d);refine ⟨E,?_,G⟩;have u:=Jf (w:=w) i (o:=⟨some t,ao,g⟩) s z σ.length σ1.length;simp only[if_true,bX,cr] at u;simp only[kY,eU,s n e i,h e i,Ch,nD,A,if_true,F,u]
theorem Jd.eff{j:fj}(h:eT P (j none) n al σ ao d σ1 w)(s:Gd al g true)(hs:(Fv al ao&&(k == 0 || ko σ σ1 w))=true)(r:Jd P j (k-1) os n al σ1 al' σ' is) :
  Jd P j k (⟨none,ao,g⟩::os) n al σ al' σ' (Di ⟨none,ao,g⟩ (cat ao) (yl al ao) w σ.length σ1.length::is):=λe i=>by
 simp only[bI] at hs;obtain ⟨x,z⟩:=hs;obtain ⟨A,E,F⟩:=r _ i;refine ⟨A,?_,F⟩;have u:=Jf (w:=w) i (o:=⟨none,ao,g⟩) s x σ.length σ1.length;simp only[if_true,bX,cr] at u;simp only[kY,eU,s n e i,h e i,Ch,nD,z,if_true,E,u]
theorem Jd.no{j:fj}(s:Gd al g false)(hs:(Nat.blt t n&&Fv al ao)=true)(r:Jd P j (k-1) os n ((t,.aT [])::al) σ al' σ' is) :
  Jd P j k (⟨some t,ao,g⟩::os) n al σ al' σ' (Di ⟨some t,ao,g⟩ 0 (yl al ao) [] σ.length σ.length::is):=λe i=>by
 simp only[bI] at hs;obtain ⟨x,z⟩:=hs;obtain ⟨A,E,F⟩:=r _ (Qs i (tc.mp x) (.aT []));refine ⟨A,?_,F⟩;have u:=Jf (w:=[]) i (o:=⟨some t,ao,g⟩) s z σ.length σ.length;simp only[if_true,bX,cr] at u;simp only[kY,eU,s n e i,nD,ko,List.all_nil,Bool.or_true,if_true,E,u]
end
end Go.Abs
end
section
namespace Go.Abs
variable[Gl]
abbrev ST(cs:List C):D:=.agg (cs.map .c)
theorem map_inj{α:Type}{f:α->List C}(i:∀{a b:α},f a=f b->a=b){l m:List α}(h:l.map f=m.map f):l=m:=by
 induction l generalizing m with
 |nil=>simp_all
 |cons a l ih => cases m with
  |nil=>simp at h
  |cons b m=>grind
theorem Nu:∀{l m:List C},l.map D.c=m.map D.c->l=m:=by
 intro l;induction l with
 |nil=>simp_all
 |cons a l ih => intro m h;cases m with
  |nil=>simp at h
  |cons b m=>grind
theorem ST_inj{α:Type}{f:α->List C}(i:∀{a b:α},f a=f b->a=b){a b:α}(h:ST (f a)=ST (f b)):a=b:=by grind [Nu]
theorem sZ{al1:AL}:Sub al1 []:=True.intro
section
variable{P:Program}{orc:wx}{n:Nat}{al:AL}{σ σ1:ar}{w:List Nat}{d d1 d2:D}{e:List D}
theorem op_aidx{α:Type}{len:Nat}{x i:aQ}{cs:List D}{l:List α}{f:α->D}{k:Int}{a:α}(h:lx al x=some (.agg cs))(hi:lx al i=some (I k))(j:aE l k=some a)(hl:cs=l.map f)(p:l.length=len) :
  eT P orc n al σ (.Ce 1 len none x i) (f a) σ []:=λe b=>by
 obtain ⟨r,s,m⟩:=nR j;have o:BH k len=some k.toNat:=by unfold BH;simp_all
 subst hl;simp[bp,fF b h,fF b hi,tf,o,uM,m]
end
end Go.Abs
end
section
namespace Go.Abs
variable[Gl]
section
variable{P:Program}
theorem zbR{t:TypeId}{d:TypeDesc}(h:P.underlying t=some d):fq P (underlying t)=some d:=by show fq P (match P.underlying t with | some d=>Go.Sem.pure d | none=>_)=_;rw[h];rfl
theorem uA{d:Nat}{xs h:Array Value}{f:Field}{j:List Field}{a b:Value}{r q:Bool}(o:(f.name != "_")=true)(l:fq P (part f.type xs f.offset)=some a)(hb:fq P (part f.type h f.offset)=some b)
  (m:fq P (Op.equalIn d f.type a b)=some r) (p:fq P (Op.eqFields d xs h j)=some q):fq P (Op.eqFields d xs h (f::j))=some (r&&q):=by
 unfold Op.eqFields;have i:f.name≠"_":=by simp_all
 rw[if_pos i,wU,l,aw,wU,hb,aw,wU,m,aw];cases r
 ·rfl
 simp_all
theorem eq_int{d:Nat}{t:TypeId}{k i:IntKind}{a b:Int}(h:P.underlying t=some (.int i)):fq P (Op.equalIn (d+1) t (.int k a) (.int k b))=some (a == b):=by simp only[Op.equalIn];rw[wU,zbR h,aw];simp only[if_true];rfl
theorem Cq{d:Nat}{t:TypeId}{a b:Bool}(h:P.underlying t=some .bool):fq P (Op.equalIn (d+1) t (.bool a) (.bool b))=some (a == b):=by simp only[Op.equalIn];rw[wU,zbR h,aw];rfl
theorem Zv{d:Nat}{t:TypeId}{xs i:Array Value}{r:Bool}(l:P.underlying t=some (.struct (P.fieldsOf t)))(o:P.stoodInHeld t=false)(h:fq P (Op.eqFields d xs i (P.fieldsOf t).toList)=some r) :
  fq P (Op.equalIn (d+1) t (.agg xs) (.agg i))=some r:=by
 simp only[Op.equalIn];rw[wU,zbR l,aw];dsimp only;rw[wU];show (fq P (Go.Sem.pure P)).bind _=_;simp only[fq,aw,o,bX,cr];rw[wU,<-Array.forIn_toList];generalize (P.fieldsOf t).toList=m at h;clear l;induction m generalizing r with
 |nil=>exact h
 |cons f m ih=>
  simp only[List.forIn_cons,Op.eqFields] at h ⊢;rw[wU];split at h
  ·rename_i j;rw[if_pos j];rw[wU] at h ⊢;cases p:fq P (part f.type xs f.offset) with
   |none=>simp_all
   |some a=>
    rw[p] at h;simp only[aw] at h ⊢;rw[wU] at h ⊢;cases s:fq P (part f.type i f.offset) with
    |none=>simp_all
    |some b=>
     rw[s] at h;simp only[aw] at h ⊢;rw[wU] at h ⊢;cases u:fq P (Op.equalIn d f.type a b) with
     |none=>simp_all
     |some q=>
      rw[u] at h;simp only[aw] at h ⊢;cases q
      ·simp only[Bool.not_false,if_true] at h ⊢;exact h
      ·simp only[Ny,bX,cr] at h ⊢;exact ih h
  ·rename_i j;rw[if_neg j];exact ih h
theorem bin_eql{t:TypeId}{x y:Operand}{xs a:Array Value}{r:Bool}(hm:P.eqGuardType P.depth t=false)(h:fq P (Op.equalIn 10000 t (.agg xs) (.agg a))=some r):iw P .eql t x y (.agg xs) (.agg a)=some (.bool r):=by
 unfold iw;rw[wU];have b:fq P (eqGuard .eql t x y (.agg xs) (.agg a))=some ():=by simp only[eqGuard,Ny,bX,cr];show fq P (if (!P.eqGuardType P.depth t)=true then Go.Sem.pure () else _)=_;rw[hm];rfl
 rw[b,aw];show fq P (do Go.Sem.pure (Value.bool (<-Op.equal t (.agg xs) (.agg a))))=_;rw[wU];unfold Op.equal Op.maxDepth;rw[h];rfl
theorem bin_neq{t:TypeId}{x y:Operand}{xs a:Array Value}{r:Bool}(hm:P.eqGuardType P.depth t=false)(h:fq P (Op.equalIn 10000 t (.agg xs) (.agg a))=some r):iw P .neq t x y (.agg xs) (.agg a)=some (.bool (!r)):=by
 unfold iw;rw[wU];have b:fq P (eqGuard .neq t x y (.agg xs) (.agg a))=some ():=by simp only[eqGuard,Ny,bX,cr];show fq P (if (!P.eqGuardType P.depth t)=true then Go.Sem.pure () else _)=_;rw[hm];rfl
 rw[b,aw];show fq P (do Go.Sem.pure (Value.bool (!(<-Op.equal t (.agg xs) (.agg a)))))=_;rw[wU];unfold Op.equal Op.maxDepth;rw[h];rfl
end
end Go.Abs
namespace Go.Abs
variable[Gl]
section
variable{P:Program}{orc:wx}{n:Nat}{al:AL}{σ:ar}{d:D}{e:List D}
def FP(P:Program)(op:Op)(ty:TypeId)(al:AL):Option D:=
 if op.operands.toList.all (λx=>((Ai al x).bind D.cW).isSome) then
  match fq P (execOp (λx=>(((Ai al x).bind D.cW).getD undef)) { dst:=none,op:=op,type:=ty,pos:="",after:=#[],guard:=none }) with
  |some (.value v)=>some (dH v)
  |_=>none
 else none
theorem genA_ok{op:Op}{ty:TypeId}(i:∀cs b,op≠.select cs b)(h:FP P op ty al=some d)(m:Env n al e):nJ P op ty e=some d:=by
 unfold FP at h;split at h
 ·rename_i a;rw[iE] at a;have l:∀x∈op.operands.toList,((ce x).map (aQ.ev e)).bind D.cW = (Ai al x).bind D.cW:=by
   grind [Option.isSome_iff_exists,Option.bind_eq_some_iff,Ai,fF]
  have j:∀x:Operand,(x∈op.operands.toList)->((((ce x).map (aQ.ev e)).bind D.cW).getD undef)=(((Ai al x).bind D.cW).getD undef):=λx o=>by simp_all
  unfold nJ;rw[if_pos (by simp_all)]
  grind [Go.execOp_congr]
 simp_all
theorem gj{c:Call}{ty:TypeId}(h:FP P (.call c) ty al=some d):eT P orc n al σ (.gen (.call c) ty) d σ []:=λe a=>by simp[bp,genA_ok (λi b=>by simp) h a]
end
end Go.Abs
namespace Go.Abs
variable[Gl]
section
variable{P:Program}{orc:wx}{n:Nat}{al:AL}{σ:ar}{d:D}{e:List D}
theorem Zu{t:TypeId}{x y:Operand}{a b:Bool}(h:P.underlying t=some .bool):iw P .eql t x y (.bool a) (.bool b)=some (.bool (a == b)):=by unfold iw;rw[wU];show (some ()).bind _=_;rw[aw];show fq P (do Go.Sem.pure (Value.bool (<-Op.equal t (.bool a) (.bool b))))=_;rw[wU];unfold Op.equal Op.maxDepth;rw[Cq (d:=9999) h];rfl
theorem Wm{t:TypeId}{x y:Operand}{a b:Bool}(h:P.underlying t=some .bool):iw P .neq t x y (.bool a) (.bool b)=some (.bool (!(a == b))):=by unfold iw;rw[wU];show (some ()).bind _=_;rw[aw];show fq P (do Go.Sem.pure (Value.bool (!(<-Op.equal t (.bool a) (.bool b)))))=_;rw[wU];unfold Op.equal Op.maxDepth;rw[Cq (d:=9999) h];rfl
def MW(k:IntKind)(a b:Int):Option Int:=if b=0 then none else some (k.wrap (a.tdiv b))
def rem?(a b:Int):Option Int:=if b=0 then none else some (a.tmod b)
def shr?(k:IntKind)(a b:Int):Option Int:=if b<0 then none else some (a.fdiv (2 ^ min b.toNat k.bits))
theorem bin_shr{t:TypeId}{x y:Operand}{i j:IntKind}{a b v:Int}(h:shr? i a b=some v):iw P .shr t x y (.int i a) (.int j b)=some (.int i v):=by
 unfold shr? at h;split at h
 ·simp at h
 ·rename_i hb;simp only[au] at h;subst h;unfold iw;rw[wU];show (some ()).bind _=_;rw[aw];simp only[binOp,Op.shift,if_neg hb];rfl
def shl?(k:IntKind)(a b:Int):Option Int:=if b<0 then none else some (k.wrap (a * 2 ^ min b.toNat k.bits))
theorem bin_shl{t:TypeId}{x y:Operand}{i j:IntKind}{a b v:Int}(h:shl? i a b=some v):iw P .shl t x y (.int i a) (.int j b)=some (.int i v):=by
 unfold shl? at h;split at h
 ·simp at h
 ·rename_i hb;simp only[au] at h;subst h;unfold iw;rw[wU];show (some ()).bind _=_;rw[aw];simp only[binOp,Op.shift,if_neg hb];rfl
theorem bin_quo{t:TypeId}{x y:Operand}{k:IntKind}{a b v:Int}(h:MW k a b=some v):iw P .quo t x y (.int k a) (.int k b)=some (.int k v):=by
 unfold MW at h;split at h
 ·simp at h
 ·rename_i hb;simp only[au] at h;subst h;unfold iw;rw[wU];show (some ()).bind _=_;rw[aw];simp only[binOp,ne_eq,not_true_eq_false,cr,Op.intDiv,if_neg hb];rfl
theorem bin_rem{t:TypeId}{x y:Operand}{k:IntKind}{a b v:Int}(h:rem? a b=some v):iw P .rem t x y (.int k a) (.int k b)=some (.int k v):=by
 unfold rem? at h;split at h
 ·simp at h
 ·rename_i hb;simp only[au] at h;subst h;unfold iw;rw[wU];show (some ()).bind _=_;rw[aw];simp only[binOp,ne_eq,not_true_eq_false,cr,Op.intDiv,if_neg hb];rfl
theorem op_idxA{α:Type}{x i:aQ}{b off sz len aA:Nat}{k:Int}{l:List α}{a:α}(h:lx al x=some (.ptr b off sz))(hi:lx al i=some (I k))(j:aE l k=some a)(o:l.length=len)(m:D.ptr b (off+k.toNat * aA) sz=d) :
  eT P orc n al σ (.idx aA (some len) x i) d σ []:=λe p=>by
 subst m;obtain ⟨r,s,u⟩:=nR j;have v:BH k len=some k.toNat:=by unfold BH;simp_all
 grind [bp,tf,fF]
end
end Go.Abs
end
section
namespace Go.Abs
variable[Gl]
abbrev OS(aA b n:Nat):D:=.sl b 0 n aA (n * aA)
abbrev OB{α:Type}(f:α->List C)(l:List α):Ob:=.cells ((l.flatMap f).map .c)
section
variable{α:Type}{f:α->List C}{aA:Nat}
theorem gU(b:∀a,(f a).length=aA):∀(l:List α),(l.flatMap f).length=l.length * aA:=by
 intro l;induction l with
 |nil=>simp
 |cons a l ih=>grind
theorem flat_at(b:∀a,(f a).length=aA):∀(l:List α)(i:Nat)(a:α),l[i]? = some a->((l.flatMap f).drop (i * aA)).take aA=f a:=by
 intro l;induction l with
 |nil=>simp_all
 |cons x l ih=>
  intro i a h;cases i with
  |zero=>simp_all
  |succ i=>
   simp only[yBt] at h;simp only[yBK];have:(i+1) * aA=(f x).length+i * aA:=by grind
   rw[this,List.drop_append,<-ih i a h,yB7 (by omega),Aj]
   simp_all
theorem Xu(i:∀a,(f a).length=aA)(l:List α)(b n:Nat):((l.flatMap f).drop (b * aA)).take (n * aA)=((l.drop b).take n).flatMap f:=by
 induction l generalizing b n with
 |nil=>simp
 |cons x l ih=>
  cases b with
  |succ b=>
   simp only[yBK,List.drop_succ_cons];have:(b+1) * aA=(f x).length+b * aA:=by grind
   rw[this,List.drop_append,<-ih b n,yB7 (by omega),Aj]
   simp_all
  |zero=>
   cases n with
   |zero=>simp
   |succ n=>
    simp only[yCs,yC0,yBK,List.take_succ_cons];have h:(n+1) * aA=(f x).length+n * aA:=by grind
    rw[h,List.take_append];have:=ih 0 n
    grind
theorem jB{σ:ar}{b:Nat}{l:List α}(i:∀a,(f a).length=aA)(h:σ[b]? = some (OB f l)):nQ σ b (l.length * aA)=some ((l.flatMap f).map .c):=by grind [nQ,gU]
theorem Qk(b:∀a,(f a).length=aA):∀(l:List α),chunks aA l.length (l.flatMap f)=l.map f:=by
 intro l;induction l with
 |nil=>rfl
 |cons a l ih=>
  simp only[Fa,chunks,yBK,ql]
  simp_all
theorem Te{σ:ar}{n k:Nat}:∀(l:List C),(l.map D.c).mapM (fS σ n (k+1))=some l:=by
 intro l;induction l with
 |nil=>rfl
 |cons x l ih=>rw[ql,Uq,ih];rfl
theorem Dy{σ:ar}{b k n:Nat}{l:List α}(i:∀a,(f a).length=aA)(j:0<aA)(h:σ[b]? = some (OB f l))(m:l.length=n):fS σ 0 (k+2) (OS aA b n)=some (.cD (Nat.blt 0 n) (l.map f)):=by
 subst m;have:fS σ 0 (k+2) (OS aA b l.length)=(if 0<=b/\0<aA/\0+l.length * aA<=l.length * aA then
    match nQ σ b (l.length * aA) with
    |some o=>(((o.drop 0).take (l.length * aA)).mapM (fS σ 0 (k+1))).map λr=>C.cD (Nat.blt 0 l.length) (chunks aA l.length r)
    |none=>none
   else none):=rfl
 rw[this,if_pos ⟨PF _,j,by omega⟩,jB i h]
 grind [List.take_of_length_le,gU,Te,Qk]
theorem frz_own{σ:ar}{b n:Nat}{l:List α}(i:∀a,(f a).length=aA)(j:0<aA)(h:σ[b]? = some (OB f l))(m:l.length=n):vF σ 0 100 (OS aA b n)=some (.c (.cD (Nat.blt 0 n) (l.map f))):=by
 show (fS σ 0 100 (OS aA b n)).map D.c=_
 grind [Dy]
theorem mapM_c{a:Type}{g:D->Option a}{d:D}{ds:List D}{r:a}{rs:List a}(h:g d=some r)(b:ds.mapM g=some rs):(d::ds).mapM g=some (r::rs):=by simp_all
theorem frz_tup{σ:ar}{ds rs:List D}(h:ds.mapM (oj σ 0 100)=some rs):vF σ 0 100 (.aT ds)=some (.aT rs):=by
 show (ds.mapM (oj σ 0 100)).map D.aT=_
 simp_all
theorem frz_agg{σ:ar}{ds:List D}{rs:List C}(h:ds.mapM (fS σ 0 100)=some rs):oj σ 0 100 (.agg ds)=some (.agg (rs.map .c)):=by
 show (ds.mapM (fS σ 0 100)).map (λl=>D.agg (l.map .c))=_
 simp_all
def Src(σ:ar)(f:α->List C)(aA:Nat)(d:D)(m:List α):Prop:=JX σ d=some m.length/\ZD σ aA m.length d=some ((m.flatMap f).map .c)
def SrcN(σ:ar)(f:α->List C)(aA:Nat)(d:D)(m:List α):Prop:=JX σ d=some m.length/\∀n,n<=m.length->ZD σ aA n d=some (((m.take n).flatMap f).map .c)
theorem srcN_own{σ:ar}{b n:Nat}{l:List α}(i:∀a,(f a).length=aA)(h:σ[b]? = some (OB f l))(j:l.length=n):SrcN σ f aA (OS aA b n) l:=by subst j;refine ⟨by grind [JX,jB],λk hk=>?_⟩;show ((nQ σ b (l.length * aA)).bind λm=>if aA=aA/\k<=l.length/\0+l.length * aA<=l.length * aA then some ((m.drop 0).take (k * aA)) else none)=_;have:=Xu i l 0 k;simp only[yCs,yC0] at this;rw[jB i h,aw,if_pos ⟨rfl,hk,by omega⟩,yC0,<-List.map_take,this]
theorem Cs{σ:ar}{nn:Bool}{m:List α}(b:∀a,(f a).length=aA):Src σ f aA (.c (.cD nn (m.map f))) m:=by
 refine ⟨by simp[JX],?_⟩;show (if m.length<=(m.map f).length/\(m.map f).all (λe=>e.length=aA) then some (((m.map f).take m.length).flatten.map D.c) else none)=_
 grind
theorem aaa{σ:ar}:Src σ f aA (.c (.lit (.slice none 0 0))) []:=⟨rfl,rfl⟩
theorem Sw{σ:ar}{b n:Nat}{l:List α}(i:∀a,(f a).length=aA)(h:σ[b]? = some (OB f l))(j:l.length=n):Src σ f aA (OS aA b n) l:=by subst j;refine ⟨by grind [JX,jB],?_⟩;show ((nQ σ b (l.length * aA)).bind λm=>if aA=aA/\l.length<=l.length/\0+l.length * aA<=l.length * aA then some ((m.drop 0).take (l.length * aA)) else none)=_;rw[jB i h,aw,if_pos ⟨rfl,cO _,by omega⟩,yC0,yBN (by simp[gU i])]
end
section
variable{P:Program}{orc:wx}{n:Nat}{al:AL}{σ σ1:ar}{d d1 d2:D}{α:Type}{f:α->List C}{aA:Nat}{ac:aP}{Q:ni->AL->ar->Prop}
theorem Sem.own(t aA:Nat)(hk:lk t al=some (.c (.lit (.slice none 0 0))))(i:D.sl σ.length 0 0 aA 0=d)(hs:σ++[.cells []]=σ1)(h:Sem P ac n ((t,d)::al) σ1 Q):Sem P ac n al σ Q:=by
 subst i hs;intro c E M Fz w a K R A F;have o:=bD.ph R;have G:=R.ph;have j:∀{d v},V σ M Fz w d v->V (σ++[.cells []]) M Fz w d v:=λh=>h.mono o;have O:dX n (σ++[.cells []]) M Fz w ((t,.sl σ.length 0 0 aA 0)::al) a.tmps:=by
  refine ⟨A.1,λs d hs=>?_⟩;simp only[lk] at hs;split at hs
  ·rename_i hb;have:=dd hb;simp only[au] at hs;subst this hs;obtain ⟨v,u,z⟩:=A.2 t _ hk;refine ⟨v,u,?_⟩;rw[z.cd];exact .sl none 0 0 (by simp) (.cells []) (by simp) (by omega) (λ_=>.inl ⟨rfl,rfl,rfl,rfl,rfl,rfl⟩)
  ·obtain ⟨v,u,z⟩:=A.2 s d hs
   simp_all
 exact h c E M Fz w a K G O λx al' σ' U w' M' Fz' W i X Z E' hl=>F x al' σ' U w' M' Fz' W i X Z (o.trans E' (by simp)) (by grind)
theorem Oy{x:aQ}{b k:Nat}{l:List α}(i:∀a,(f a).length=aA)(h:lx al x=some (OS aA b k))(hb:σ[b]? = some (OB f l))(j:l.length=k):eT P orc n al σ (.len x) (I k) σ []:=λe m=>by grind [bp,JX,fF,jB]
def cB{α:Type}(l m:List α):Option (List α):=if l.length+m.length<=1000000 then some (l++m) else none
theorem uD{l m r:List α}(h:cB l m=some r):l.length+m.length<=1000000/\r=l++m:=by
 unfold cB at h
 simp_all
theorem vj{i:Nat}{s x:aQ}{b k:Nat}{l m r:List α}(F:∀a,(f a).length=aA)(h:lx al s=some (OS aA b k))(hb:σ[b]? = some (OB f l))(hk:l.length=k)(G:lx al x=some d)(hm:Src σ f aA d m)(K:cB l m=some r)
  (v:Nat.ble i 1000=true) (L:OS aA b r.length=d1) (hs:σ.set b (OB f r)=σ1):eT P orc n al σ (.append aA i s x) d1 σ1 [b]:=by
 obtain ⟨o,rfl⟩:=uD K;subst L hs hk;have p:i<=1000:=BW v;have j:EQ (l.length+m.length) i=true:=by have:(l.length+m.length) * i<=1000000 * 1000:=yC1 o p;simp only[EQ,bI,bz];omega
 have y:∀e,Env n al e->bp P orc (.append aA i s x) e σ=(if m.length=0 then some (OS aA b l.length,σ,[b]) else some (.sl b 0 (l.length+m.length) aA (l.length * aA+m.length * aA),σ.set b (.cells ((l.flatMap f).map .c++(m.flatMap f).map .c)),[b])):=by
  intro e u;have:bp P orc (.append aA i s x) e σ=(JX σ d).bind λk=>(ZD σ aA k d).bind λnew=>(nQ σ b (l.length * aA)).bind λz=>if aA=aA/\0=0/\l.length * aA=l.length * aA/\EQ (l.length+k) i then
     if k=0 then some (.sl b 0 l.length aA (l.length * aA),σ,[b])
     else some (.sl b 0 (l.length+k) aA (l.length * aA+k * aA),σ.set b (.cells (z++new)),[b])
    else if aA=aA/\0=0/\(l.length+k) * aA<=l.length * aA/\EQ (l.length+k) i then
     if k=0 then some (.sl b 0 l.length aA (l.length * aA),σ,[b])
     else some (.sl b 0 (l.length+k) aA (l.length * aA),σ.set b (.cells (put z (l.length * aA) new)),[b])
    else none:=by
   simp only[bp,fF u h,fF u G];rfl
  rw[this,hm.1,aw,hm.2,aw,jB F hb,aw,if_pos ⟨rfl,rfl,rfl,j⟩]
 intro e u;by_cases A:m.length=0
 ·rw[y e u,if_pos A];have:m=[]:=WX A;subst this;have E:σ.set b (OB f (l++[]))=σ:=by
   rw[Ec];apply Vf
   grind
  simp_all
 grind
theorem Qo{x i:aQ}{b m:Nat}{k:Int}{l:List α}{a:α}(p:∀a,(f a).length=aA)(h:lx al x=some (OS aA b m))(hb:σ[b]? = some (OB f l))(j:l.length=m)(hi:lx al i=some (I k))(o:aE l k=some a) :
  eT P orc n al σ (.idx aA none x i) (.ptr b (k.toNat * aA) (m * aA)) σ []:=λe r=>by
 subst j;obtain ⟨s,u,v⟩:=nR o;have y:BH k l.length=some k.toNat:=by unfold BH;simp_all
 grind [bp,tf,fF,jB]
theorem Zc{l:List α}{k:Int}{a:α}(b:aE l k=some a):l[k.toNat]? = some a:=(nR b).2.2
theorem Fs(j:∀a,(f a).length=aA){l:List α}{i o:Nat}{a:α}{m:Option Nat}(p:l[i]? = some a)(h:uM m ((f a).map .c) o=some d):uM m ((l.flatMap f).map .c) (i * aA+o)=some d:=by
 have r:=flat_at j l i a p;have b:(i+1) * aA<=(l.flatMap f).length:=by grind
 rw[NG,Nat.one_mul] at b;cases m with
 |none=>
  simp only[uM,lJ,cy] at h ⊢
  grind
 |some m=>
  simp only[uM] at h ⊢;split at h
  ·rename_i s;simp only[wX,j] at s;rw[if_pos (by grind)]
   grind [List.map_drop,List.map_take,List.drop_take,List.drop_drop]
  simp_all
theorem XF{m:Option Nat}{x:aQ}{b p q o i:Nat}{l:List α}{a:α}(j:∀a,(f a).length=aA)(h:lx al x=some (.ptr b p (q * aA)))(r:p=i * aA+o)(hb:σ[b]? = some (OB f l))(s:l.length=q)(u:l[i]? = some a)
  (v:uM m ((f a).map .c) o=some d):eT P orc n al σ (.load m x) d σ []:=by
 subst s r;exact qQ h (jB j hb) (Fs j u v)
theorem Wq(j:∀a,(f a).length=aA){xs:List C}:∀(l:List α)(i o:Nat)(a b:α),l[i]? = some a->o+xs.length<=aA->f b=(f a).take o++xs++(f a).drop (o+xs.length) ->
  (l.flatMap f).take (i * aA+o)++xs++(l.flatMap f).drop (i * aA+o+xs.length)=(l.set i b).flatMap f:=by
 intro l;induction l with
 |nil=>simp_all
 |cons x l ih=>
  intro i o a b h m p;cases i with
  |zero=>grind
  |succ i=>
   simp only[yBt] at h;have u:=j x;have r:(i+1) * aA+o=(f x).length+(i * aA+o):=by grind
   simp only[yBK,List.set_cons_succ];rw[<-ih i o a b h m p,r,List.take_append,yBN (by omega)];have s:(f x).length+(i * aA+o)+xs.length=(f x).length+(i * aA+o+xs.length):=by omega
   rw[s,List.drop_append,yB7 (by omega),Aj,yBG,yBG];simp
theorem SM{m:Nat}{x y:aQ}{b p q o i:Nat}{l:List α}{a j:α}{xs:List C}(v:∀a,(f a).length=aA)(h:lx al x=some (.ptr b p (q * aA)))(E:p=i * aA+o)(hb:σ[b]? = some (OB f l))(F:l.length=q)(z:l[i]? = some a)
  (G:lx al y=some d) (K:d.cells? = some (xs.map .c)) (hm:xs.length=m) (L:Nat.ble (o+m) aA=true) (N:f j=(f a).take o++xs++(f a).drop (o+xs.length)) {A:List α} (r:l.set i j=A) (hs:σ.set b (OB f A)=σ1) :
  eT P orc n al σ (.store m x y) (.aT []) σ1 [b]:=by
 subst F E r hs hm;have s:o+xs.length<=aA:=BW L;have hi:=(eY.1 z).1;have u:(i+1) * aA<=l.length * aA:=GY _ hi;rw[NG,Nat.one_mul] at u;refine Dp h (jB v hb) G K ⟨by simp,by omega⟩ ?_;congr 2;rw[<-Wq v l i o a j z s N];simp[put]
theorem js{len:Nat}{z cs:List D}{ps:List (Nat×Nat×aQ)}{l:List α}(h:Bv al (dG len z) ps=some cs)(hl:cs=(l.flatMap f).map .c)(b:l.length=len)(i:∀a,(f a).length=aA)(j:OS σ.length aA len=OS σ.length aA len)(m:OS aA σ.length len=d1)(hs:σ++[OB f l]=σ1) :
  eT P orc n al σ (.jf aA len z ps) d1 σ1 []:=by
 grind [Gf,gU]
theorem SS{z:α}:∀(k:Nat),dG k ((f z).map .c)=((List.replicate k z).flatMap f).map .c:=by
 intro k;induction k with
 |zero=>rfl
 |succ k ih=>grind [dG]
def EW{α:Type}(z:α)(l c:Int):Option (List α):=if 0<=l/\l<=c/\c<=1000000 then some (List.replicate l.toNat z) else none
def mk0?{α:Type}(c:Int):Option (List α):=if 0<=c/\c<=1000000 then some [] else none
theorem op_mk0{a:Nat}{zs:List D}{x y:aQ}{c:Int}{l:List α}(m:lx al x=some (I 0))(o:lx al y=some (I c))(hm:mk0? c=some l)(i:Nat.ble a 1000=true)
  (p:OS aA σ.length l.length=d1) (hs:σ++[OB f l]=σ1):eT P orc n al σ (.mk aA a zs x y) d1 σ1 []:=λe j=>by
 subst p hs;unfold mk0? at hm;split at hm
 ·rename_i s;simp only[au] at hm;subst hm;have h:a<=1000:=BW i;have b:EQ c.toNat a=true:=by
   have r:c.toNat<=1000000:=by omega
   have:c.toNat * a<=1000000 * 1000:=yC1 r h;simp only[EQ,bI,bz];omega
  simp only[bp,fF j m,fF j o,tf,eR,aw];rw[if_pos ⟨by omega,by omega,b⟩];simp[OS,OB,dG]
 simp_all
theorem op_mk{a:Nat}{zs:List D}{x y:aQ}{k c:Int}{z:α}{l:List α}(o:lx al x=some (I k))(p:lx al y=some (I c))(r:zs=(f z).map .c)(hm:EW z k c=some l)(i:Nat.ble a 1000=true)
  (s:OS aA σ.length l.length=d1) (hs:σ++[OB f l]=σ1):eT P orc n al σ (.mk aA a zs x y) d1 σ1 []:=λe j=>by
 subst s hs r;unfold EW at hm;split at hm
 ·rename_i m;simp only[au] at hm;subst hm;have h:a<=1000:=BW i;have b:EQ c.toNat a=true:=by
   have u:c.toNat<=1000000:=by omega
   have:c.toNat * a<=1000000 * 1000:=yC1 u h;simp only[EQ,bI,bz];omega
  simp only[bp,fF j o,fF j p,tf,eR,aw];rw[if_pos ⟨m.1,m.2.1,b⟩,SS];simp[OS]
 simp_all
def slice?{α:Type}(l:List α)(a hi:Int):Option (List α):=if 0<=a/\a<=hi/\hi<=l.length then some ((l.take hi.toNat).drop a.toNat) else none
theorem op_slc{x:aQ}{p hi:Option aQ}{nn:Bool}{l r:List α}{i j:Int}(y:∀a,(f a).length=aA)(h:lx al x=some (.c (.cD nn (l.map f))))(b:(match p with | none=>some (I 0) | some o=>lx al o)=some (I i))
  (m:(match hi with | none=>some (I l.length) | some o=>lx al o)=some (I j)) (s:slice? l i j=some r):eT P orc n al σ (.UX aA x p hi) (.c (.cD nn (r.map f))) σ []:=λe u=>by
 unfold slice? at s;split at s
 ·rename_i z;simp only[au] at s;subst s;have v:nN e (l.map f).length (l.map f).length hi=some j.toNat:=by
   cases hi with
   |none=>simp only[au,I,D.c.injEq,C.lit.injEq,Value.int.injEq,true_and] at m;grind [nN]
   |some o=>
    simp only at m;simp only[nN,fF u m,tf,aw,QC]
    grind
  have hl:nN e 0 j.toNat p=some i.toNat:=by
   cases p with
   |none=>simp only[au,I,D.c.injEq,C.lit.injEq,Value.int.injEq,true_and] at b;grind [nN]
   |some o=>
    simp only at b;simp only[nN,fF u b,tf,aw,QC]
    grind
  simp only[bp,fF u h,v,hl,eR,aw]
  simp_all
 simp_all
end
end Go.Abs
namespace Go.Abs
variable[Gl]
end Go.Abs
namespace Go.Abs
variable[Gl]
theorem Zz{m:Nat}:∀(l:List C),D.low.cU m (l.map D.c)=true:=by
 intro l;induction l with
 |nil=>rfl
 |cons x l ih=>grind [D.low.cU,D.low]
end Go.Abs
end
section
namespace Go.Abs
variable[Gl]
def cf(P:Program)(orc:fj)(k:Nat)(os:List aG)(n:Nat)(al:AL)(σ:ar)(Q:AL->ar->List dZ->Prop):Prop:=
 ∃al' σ' is,Jd P orc k os n al σ al' σ' is/\Q al' σ' is
section
variable{P:Program}{orc:fj}{n k:Nat}{al al1:AL}{σ σ1:ar}{w:List Nat}{d:D}{os:List aG}{t:Nat}{ao:kE}{g:Option (Nat×Bool)}{Q:AL->ar->List dZ->Prop}
theorem cf.nil(h:Q al σ []):cf P orc k [] n al σ Q:=⟨al,σ,[],Jd.nil,h⟩
theorem cf.op(h:eT P (orc (some t)) n al σ ao d σ1 w)(i:Gd al g true)(hs:(Nat.blt t n&&Fv al ao&&(k == 0 || ko σ σ1 w))=true)
  (r:cf P orc (k-1) os n ((t,d)::al) σ1 λal' σ' is=>Q al' σ' (Di ⟨some t,ao,g⟩ (cat ao) (yl al ao) w σ.length σ1.length::is)):cf P orc k (⟨some t,ao,g⟩::os) n al σ Q:=by
 obtain ⟨al',σ',is,j,o⟩:=r;exact ⟨al',σ',_,Jd.op h i hs j,o⟩
theorem cf.eff(h:eT P (orc none) n al σ ao d σ1 w)(i:Gd al g true)(hs:(Fv al ao&&(k == 0 || ko σ σ1 w))=true)
  (r:cf P orc (k-1) os n al σ1 λal' σ' is=>Q al' σ' (Di ⟨none,ao,g⟩ (cat ao) (yl al ao) w σ.length σ1.length::is)):cf P orc k (⟨none,ao,g⟩::os) n al σ Q:=by
 obtain ⟨al',σ',is,j,o⟩:=r;exact ⟨al',σ',_,Jd.eff h i hs j,o⟩
theorem cf.no(i:Gd al g false)(hs:(Nat.blt t n&&Fv al ao)=true)
  (r:cf P orc (k-1) os n ((t,.aT [])::al) σ λal' σ' is=>Q al' σ' (Di ⟨some t,ao,g⟩ 0 (yl al ao) [] σ.length σ.length::is)):cf P orc k (⟨some t,ao,g⟩::os) n al σ Q:=by
 obtain ⟨al',σ',is,j,o⟩:=r;exact ⟨al',σ',_,Jd.no i hs j,o⟩
theorem Sem.qR{Q:ni->AL->ar->Prop}(i:P.follows .mixedOrders=true)(O:lN P orc)(h:cf P orc 0 os n al σ λal' σ' _=>Q .normal al' σ'):Sem P (.Bc os) n al σ Q:=by
 obtain ⟨al',σ',is,j,o⟩:=h
 grind [Sem.Bc]
theorem Sem.drwQ{Q:ni->AL->ar->Prop}{i:List Nat}{p:Nat}(j:P.follows .mixedOrders=true)(O:lN P orc)
  (h:cf P orc k os n al σ λal' σ' is=>(eH i is&&mU i p k os.length&&Nat.ble p k)=true/\Q .normal al' σ'):Sem P (.Hb os i k p) n al σ Q:=by
 obtain ⟨al',σ',is,o,s,u⟩:=h
 grind [Sem.Hb]
theorem Sem.drwNQ{Q:ni->AL->ar->Prop}{i:List Nat}{p:Nat}(j:P.follows .mixedOrders=true)(O:lN P orc)
  (h:cf P orc os.length os n al σ λal' σ' is=>(eH i is&&mU i p os.length os.length&&Nat.ble p os.length)=true/\Q .normal al' σ'):Sem P (.Hb os i k p) n al σ Q:=by
 obtain ⟨al',σ',is,o,s,u⟩:=h
 grind [Sem.drwN]
def shut(n:Nat)(al:AL)(o:aG):Option Nat:=
 match o.g,o.dst with
 |some (t, want), some s=>
  match lk t al with
  |some (.c (.lit (.bool b)))=>if (b != want)&&(Nat.blt s n&&Fv al o.op) then some s else none
  |some (.aT [])=>if Nat.blt s n&&Fv al o.op then some s else none
  |_=>none
 |_,_=>none
end
end Go.Abs
end
section
namespace Go.Abs
variable[Gl]
def dq{α:Type}:List (Int×α)->Int->Option α
 |[],_=>none
 |(b,a)::l,k=>if b=k then some a else dq l k
def kr{α:Type}:List (Int×α)->Int->α->List (Int×α)
 |[],k,a=>[(k,a)]
 |(b,h)::l,k,a=>if b=k then (b,a)::l else (b,h)::kr l k a
def NS{α:Type}:List (Int×α)->Int->Nat
 |[],_=>0
 |(a,_)::l,k=>if a=k then 0 else NS l k+1
def EU{α:Type}(g:α->D):Nat->List (Int×α)->List (Value×D×Nat)
 |_,[]=>[]
 |i,(k,a)::l=>(.int .i64 k,g a,i)::EU g (i+1) l
abbrev MB{α:Type}(g:α->D)(l:List (Int×α)):Ob:=.map (EU g 0 l) l.length
def oel{α b:Type}(o:Option α)(n:b)(s:α->b):b:=match o with | none=>n | some a=>s a
section
variable{α:Type}
theorem Df{m:IntKind}{g:α->D}{k:Int}:∀(l:List (Int×α))(i j:Nat),xu (.int m) (.int .i64 k) (EU g i l) j=some ((dq l k).map λa=>(j+NS l k,g a)):=by
 intro l;induction l with
 |nil=>intro i j;rfl
 |cons x l ih=>
  intro i j;obtain ⟨b,a⟩:=x;simp only[EU,xu,Instr.sameNow,if_true];by_cases h:b=k
  ·grind [dq,NS]
  ·have hb:(k == b)=false:=by grind
   simp only[hb,ih,dq,NS,if_neg h]
   grind
theorem Tn{g:α->D}{k:Int}{a:α}:∀(l:List (Int×α))(i:Nat)(b:α),dq l k=some b->(EU g i l).modify (NS l k) (λp=>(p.1,g a,p.2.2))=EU g i (kr l k a)/\(kr l k a).length=l.length:=by
 intro l;induction l with
 |nil=>grind [dq]
 |cons x l ih=>
  intro i b h;obtain ⟨j,m⟩:=x;by_cases hk:j=k
  ·grind [NS,kr,EU]
  ·simp only[dq,if_neg hk] at h;obtain ⟨o,r⟩:=ih (i+1) b h
   grind [NS,kr,EU]
theorem SZ{g:α->D}{k:Int}{a:α}:∀(l:List (Int×α))(i:Nat),dq l k=none->EU g i l++[(.int .i64 k,g a,i+l.length)]=EU g i (kr l k a)/\(kr l k a).length=l.length+1:=by
 intro l;induction l with
 |nil=>grind [kr,EU]
 |cons x l ih=>
  intro i h;obtain ⟨b,j⟩:=x;by_cases hk:b=k
  ·grind [dq]
  ·simp only[dq,if_neg hk] at h;obtain ⟨m,o⟩:=ih (i+1) h;refine ⟨?_,by grind [kr]⟩;simp only[kr,if_neg hk,EU,JS,Fa]
   grind
end
section
variable{P:Program}{orc:wx}{n:Nat}{al:AL}{σ σ1:ar}{d d1 d2:D}{α:Type}
theorem Yc{g:α->D}(a:D.mp σ.length=d)(hs:σ++[MB g ([]:List (Int×α))]=σ1):eT P orc n al σ .uy d σ1 []:=λe b=>by subst a hs;rfl
theorem aac{i:IntKind}{zero:D}{m k:aQ}{b:Nat}{g:α->D}{l:List (Int×α)}{x:Int}{ok:Bool}{a:α}(hm:lx al m=some (.mp b))(hb:σ[b]? = some (MB g l))(hk:lx al k=some (I x))(j:dq l x=some a)(o:(if ok then .aT [g a,B true] else g a)=d) :
  eT P orc n al σ (.lookup (.int i) zero m k ok) d σ []:=λe h=>by
 subst o;simp only[bp,fF h hm,fF h hk,kG,GD,hb,eR,aw,Df,j,Ch,Nw]
theorem XY{h:IntKind}{zero:D}{m k:aQ}{b:Nat}{g:α->D}{l:List (Int×α)}{x:Int}{ok:Bool}(hm:lx al m=some (.mp b))(hb:σ[b]? = some (MB g l))(hk:lx al k=some (I x))(i:dq l x=none)(j:(if ok then .aT [zero,B false] else zero)=d) :
  eT P orc n al σ (.lookup (.int h) zero m k ok) d σ []:=λe a=>by
 subst j;simp only[bp,fF a hm,fF a hk,kG,GD,hb,eR,aw,Df,i,yCc,Nw]
theorem op_upd{o:IntKind}{m k x:aQ}{b:Nat}{g:α->D}{l:List (Int×α)}{i:Int}{a:α}(hm:lx al m=some (.mp b))(hb:σ[b]? = some (MB g l))(hk:lx al k=some (I i))(p:lx al x=some (g a))(hs:σ.set b (MB g (kr l i a))=σ1) :
  eT P orc n al σ (.xy (.int o) m k x) (.aT []) σ1 [b]:=λe h=>by
 subst hs;simp only[bp,fF h hm,fF h hk,kG,hb,eR,aw,Df,fF h p];cases j:dq l i with
 |some r=>
  obtain ⟨s,u⟩:=Tn (g:=g) (a:=a) l 0 r j
  grind
 |none=>
  obtain ⟨s,u⟩:=SZ (g:=g) (a:=a) l 0 j
  grind
theorem Sn{f:Fn}{first cap:List aQ}{a b:List D}(h:Vg al first=some a)(i:Vg al cap=some b):eT P orc n al σ (.DN f first cap) (.fn f a b) σ []:=λe j=>by grind [bp,JU]
theorem Nf{g:FuncId}{f:aQ}{args:List aQ}{ds a b:List D}{w:List Nat}(h:lx al f=some (.fn (.func g) a b))(i:Vg al args=some ds)(j:orc g (a++ds++b) σ=some (d,σ1,w)):eT P orc n al σ (.call f args) d σ1 w:=λe l=>by grind [bp,fF,JU]
theorem VB{g:FuncId}{f:aQ}{args:List aQ}{ds:List D}{a b:List C}{w:List Nat}(h:lx al f=some (.c (.fn (.func g) a b)))(i:Vg al args=some ds)(j:orc g (a.map .c++ds++b.map .c) σ=some (d,σ1,w)):eT P orc n al σ (.call f args) d σ1 w:=λe l=>by grind [bp,fF,JU]
theorem op_idxS{aA j b off len sz:Nat}{x i:aQ}{k:Int}{cs:List D}(h:lx al x=some (.sl b off len aA sz))(hi:lx al i=some (I k))(l:nQ σ b sz=some cs)(hk:BH k len=some j)(m:D.ptr b (off+j * aA) sz=d) :
  eT P orc n al σ (.idx aA none x i) d σ []:=λe a=>by
 subst m;simp only[bp,fF a h,fF a hi,tf,eR,aw,l,hk,if_true]
theorem op_lenS{b off len aA sz:Nat}{x:aQ}{cs:List D}(h:lx al x=some (.sl b off len aA sz))(a:nQ σ b sz=some cs)(i:I len=d):eT P orc n al σ (.len x) d σ []:=λe j=>by grind [bp,JX,fF]
theorem TS{x:aQ}{cs:List C}{off:Nat}(h:lx al x=some (.c (.cz cs off))):eT P orc n al σ (.me x) (.c (.cz cs off)) σ []:=λe a=>by grind [bp,fF]
theorem UR{x:aQ}{f:FuncId}{a b:List C}(h:lx al x=some (.c (.fn (.func f) a b))):eT P orc n al σ (.me x) (.c (.fn (.func f) a b)) σ []:=λe i=>by grind [bp,fF]
theorem Hn{x:aQ}{f:FuncId}{a b:List D}(h:lx al x=some (.fn (.func f) a b)):eT P orc n al σ (.me x) (.fn (.func f) a b) σ []:=λe i=>by grind [bp,fF]
end
section
variable{P:Program}{orc:wx}{n:Nat}{al:AL}{σ σ1:ar}{d d1 d2:D}{α:Type}{f:α->List C}{aA:Nat}
theorem DT{a:Nat}{s x:aQ}{m:List α}(h:lx al s=some (.c (.lit (.slice none 0 0))))(p:lx al x=some d)(hm:Src σ f aA d m)(hl:Nat.ble m.length 1000000=true)
  (l:Nat.ble a 1000=true) (r:OS aA σ.length m.length=d1) (hs:σ++[OB f m]=σ1):eT P orc n al σ (.append aA a s x) d1 σ1 []:=by
 subst r hs;have i:a<=1000:=BW l;have j:m.length<=1000000:=BW hl;have b:EQ m.length a=true:=by have:m.length * a<=1000000 * 1000:=yC1 j i;simp only[EQ,bI,bz];omega
 intro e o;have:bp P orc (.append aA a s x) e σ=(JX σ d).bind λk=>(ZD σ aA k d).bind λnew=>if EQ k a then some (.sl σ.length 0 k aA (k * aA),σ++[.cells new],[]) else none:=by simp only[bp,fF o h,fF o p];rfl
 rw[this,hm.1,aw,hm.2,aw,if_pos b]
end
def OX:Nat->C->C
 |n+1,.cD _ es=>.cD false (es.map λe=>e.map (OX n))
 |_+1,.lit (.slice none 0 0)=>.cD false []
 |_,x=>x
theorem QO{Fz:Nat->Prop}{w:World}:∀(n:Nat){x:C}{v:Value},VC Fz w x v->VC Fz w (OX n x) v:=by
 intro n;induction n with
 |zero=>intro x v h;exact h
 |succ n ih=>
  intro x v h;by_cases z:x=.lit (.slice none 0 0)
  ·subst z;cases h;exact .cD (es:=[]) 0 none 0 (by simp) (λ_=>rfl) (λ_ _=>undef) (by simp) (by simp) (by simp) (by simp)
  cases h with
  | @cD nn es aA a cap A E c F u y l=>
   have h:=VC.cD (Fz:=Fz) (w:=w) (nn:=false) (es:=es.map λe=>e.map (OX n)) aA a cap (by simp) E c (λe O=>?_) (by simp_all) (λi j e d m p=>?_) (λi j e d m p=>?_)
   ·rw[wX] at h;exact h
   ·grind
   ·grind
   grind
  |lit v=>
   have:OX (n+1) (.lit v)=.lit v:=by
    unfold OX
    simp_all
   rw[this];exact .lit v
  |cz blk o c r y l=>exact .cz blk o c r y l
  |fn G K m p l L=>exact .fn G K m p l L
  |MN blk b s r N hs hk l=>exact .MN blk b s r N hs hk l
  |Vp g=>exact .Vp g
def nrmY:D->D
 |.c x=>.c (OX 5 x)
 |.agg ds=>.agg (ds.map λd=>match d with | .c x=>.c (OX 5 x) | d=>d)
 |d=>d
theorem ED.of_nrmY{d j:D}(h:nrmY d=j):ED d j:=by
 subst h;intro σ M Fz w v h;unfold nrmY;split
 ·cases h with | c h=>exact .c (QO 5 h)
 ·cases h with
  |agg o z s=>
   refine .agg o (by simp_all) (λi d v a b=>?_);simp only[lJ,cy] at a;obtain ⟨u,x,rfl⟩:=a;have:=s i u v x b;split
   ·cases this with | c h=>exact .c (QO 5 h)
   omega
 omega
def ObFz(S F:D):Ob->Ob->Prop
 |.map es c,.map b l=>c=l/\b.length=es.length/\∀(i:Nat) k a n,b[i]? = some (k,a,n)->∃d,es[i]? = some (k,d,n)/\(a=d\/d=S/\a=F)
 |.cells j,.cells h=>h.length=j.length/\∀(i:Nat) a,h[i]? = some a->∃d,j[i]? = some d/\(a=d\/d=S/\a=F)
 |_,_=>False
theorem ObFz.sz{S F:D}{ob ob':Ob}(h:ObFz S F ob ob'):ob'.sz=ob.sz:=by
 cases ob <;> cases ob' <;> simp only[ObFz] at h
 ·exact h.1
 ·rfl
section
variable{P:Program}{σ σ0 σ1:ar}{n:Nat}{al:AL}{ac:aP}{Q:ni->AL->ar->Prop}{α:Type}{f:α->List C}{aA:Nat}
end
end Go.Abs
end
section
namespace Go.Fl
open Ieee
theorem log2_lt{n k:Nat}(a:n≠0)(h:n<2 ^ k):n.log2<k:=(Nat.log2_lt a).2 h
theorem Rq{n:Nat}(a:n≠0):2 ^ n.log2<=n:=Nat.log2_self_le a
theorem Rk(n:Nat):n<2 ^ (n.log2+1):=Nat.lt_log2_self
theorem lp:double.leastPlace=-1074:=by decide
def can(s:Bool)(n:Nat):Datum:=if n=0 then .number s 0 (-1074) else .number s (n * 2 ^ (52-n.log2)) ((n.log2:Int)-52)
theorem EG(a:Toward)(s:Bool)(n:Nat):a.cut s n 0=n:=by
 unfold Toward.cut;have h:1 <<< min 0 (n.log2+2)=1:=by simp_all
 have b:n % 1=0:=Nat.mod_one n;simp only[h,Nat.div_one,b];cases a <;> simp
theorem UI{s:Bool}{n d m:Nat}(a:d<=n.log2+2)(h:n=m * 2 ^ d):Toward.even.cut s n d=m:=by
 unfold Toward.cut;have b:1 <<< min d (n.log2+2)=2 ^ d:=by rw[Nat.min_eq_left a,Nat.one_shiftLeft]
 have i:0<2 ^ d:=Nat.pow_pos (by decide)
 simp_all
theorem yS{m d:Nat}(h:m≠0):(m * 2 ^ d).log2=m.log2+d:=by
 have b:=Rq h;have i:=Rk m;have a:m * 2 ^ d≠0:=by grind [Nat.mul_ne_zero]
 apply Nat.le_antisymm
 ·have:m * 2 ^ d<2 ^ (m.log2+d+1):=by
   rw[show m.log2+d+1=(m.log2+1)+d by omega,yCy];exact yCd i (Nat.pow_pos (by decide))
  have:=log2_lt a this;omega
 ·have:2 ^ (m.log2+d)<=m * 2 ^ d:=by
   rw[yCy];exact GY _ b
  exact (Nat.le_log2 a).2 this
theorem SV{s:Bool}{n k:Nat}(a:n≠0)(h:n<2 ^ 53):double.nearest s (n * 2 ^ k) (-(k:Int))=double.nearest s n 0:=by
 have hl:=log2_lt a h;have e:(n * 2 ^ k).log2=n.log2+k:=yS a;have j:n * 2 ^ k≠0:=Nat.mul_ne_zero a (by simp_all);have fb:double.fractionBits=52:=rfl;have l:max (-(k:Int)+((n * 2 ^ k).log2:Nat)-((52:Nat):Int)) (-1074)=(n.log2:Int)-52:=by omega
 have m:max ((0:Int)+(n.log2:Nat)-((52:Nat):Int)) (-1074)=(n.log2:Int)-52:=by omega
 have o:Toward.even.cut s ((n * 2 ^ k) <<< (-(k:Int)-((n.log2:Int)-52)).toNat) (((n.log2:Int)-52) - -(k:Int)).toNat=n * 2 ^ (52-n.log2):=by
  by_cases hk:k+n.log2<=52
  ·have b:(-(k:Int)-((n.log2:Int)-52)).toNat=52-n.log2-k:=by omega
   have i:(((n.log2:Int)-52) - -(k:Int)).toNat=0:=by omega
   rw[b,i,EG,Nat.shiftLeft_eq,Nat.mul_assoc,<-yCy]
   grind
  ·have b:(-(k:Int)-((n.log2:Int)-52)).toNat=0:=by omega
   have i:(((n.log2:Int)-52) - -(k:Int)).toNat=k+n.log2-52:=by omega
   rw[b,i,Nat.shiftLeft_zero];refine UI (by omega) ?_;rw[Nat.mul_assoc,<-yCy]
   grind
 have p:Toward.even.cut s (n <<< ((0:Int)-((n.log2:Int)-52)).toNat) (((n.log2:Int)-52)-0).toNat=n * 2 ^ (52-n.log2):=by
  have b:((0:Int)-((n.log2:Int)-52)).toNat=52-n.log2:=by omega
  have i:(((n.log2:Int)-52)-0).toNat=0:=by omega
  grind [EG,Nat.shiftLeft_eq]
 unfold Format.nearest;rw[if_neg j,if_neg a]
 grind [lp]
theorem SF{s:Bool}{n:Nat}(h:n<2 ^ 53):double.read (double.nearest s n 0)=can s n:=by
 by_cases b:n=0
 ·subst b;cases s <;> rfl
 have hl:=log2_lt b h;have p:=Rq b;have r:=Rk n;have fb:double.fractionBits=52:=rfl;have a:max ((0:Int)+(n.log2:Nat)-((52:Nat):Int)) (-1074)=(n.log2:Int)-52:=by omega
 have i:Toward.even.cut s (n <<< ((0:Int)-((n.log2:Int)-52)).toNat) (((n.log2:Int)-52)-0).toNat=n * 2 ^ (52-n.log2):=by
  have F:((0:Int)-((n.log2:Int)-52)).toNat=52-n.log2:=by omega
  have G:(((n.log2:Int)-52)-0).toNat=0:=by omega
  grind [EG,Nat.shiftLeft_eq]
 have u:4503599627370496<=n * 2 ^ (52-n.log2):=by have:2 ^ n.log2 * 2 ^ (52-n.log2)<=n * 2 ^ (52-n.log2):=GY _ p;rw[<-yCy,show n.log2+(52-n.log2)=52 by omega] at this;omega
 have v:n * 2 ^ (52-n.log2)<9007199254740992:=by have:n * 2 ^ (52-n.log2)<2 ^ (n.log2+1) * 2 ^ (52-n.log2):=yCd r (Nat.pow_pos (by decide));rw[<-yCy,show n.log2+1+(52-n.log2)=53 by omega] at this;omega
 have m:double.infRung=9218868437227405312:=by decide
 have x:double.signWeight=9223372036854775808:=by decide
 have o:double.binade=4503599627370496:=by decide
 unfold can;rw[if_neg b];generalize n * 2 ^ (52-n.log2)=K at i u v ⊢;generalize y:n.log2=L at i a hl ⊢;have z:double.nearest s n 0=double.word s ((L+1022) * 4503599627370496+K):=by
  unfold Format.nearest;rw[if_neg b];simp only[fb,lp,y,a,i,m,o];have A:(((L:Int)-52) - -1074).toNat=L+1022:=by omega
  rw[A,Nat.min_eq_left (by omega)]
 rw[z];generalize N:(L+1022) * 4503599627370496+K=R;have E:R<9223372036854775808:=by omega
 have j:(double.word s R / double.signWeight % 2 == 1)=s:=by
  unfold Format.word;rw[x];cases s
  ·grind
  ·rw[if_pos rfl,Nat.add_div_left _ (by decide),Nat.div_eq_of_lt E];rfl
 have l:double.word s R % double.signWeight=R:=by
  unfold Format.word
  grind
 unfold Format.read;simp only[j,l,o,m,lp]
 grind
theorem XW(s:Bool)(k:Nat):Datum.number s (0 * 2 ^ k) (-(k:Int))=Datum.number s 0 (-(k:Int)):=by simp_all
theorem mo(s:Bool){n:Nat}(h:n<2 ^ 53):∃k:Nat,can s n=.number s (n * 2 ^ k) (-(k:Int)):=by
 unfold can;split
 ·rename_i e;subst e;exact ⟨1074,(XW s 1074).symm⟩
 ·rename_i a;have:=log2_lt a h
  grind
theorem Qj(s:Bool){n:Nat}(k:Nat)(h:n<2 ^ 53):double.nearest s (n * 2 ^ k) (-(k:Int))=double.nearest s n 0:=by
 by_cases a:n=0
 ·subst a;rw[yCs];unfold Format.nearest
  simp_all
 grind [SV]
def fl(n:Int):Nat:=FloatKind.f64.nearest n
theorem Xe(n:Int):fl n=double.nearest (decide (n<0)) n.natAbs 0:=rfl
theorem qA{n:Int}(h:n.natAbs<2 ^ 53):double.read (fl n)=can (decide (n<0)) n.natAbs:=SF h
def sg(s:Bool)(n:Nat):Int:=if s then -(n:Int) else n
theorem HB(s:Bool)(n i m:Nat)(h:i<=m):signed s (n * 2 ^ i) (m-i)=sg s n * (2 ^ m:Nat):=by
 have e:(n * 2 ^ i) <<< (m-i)=n * 2 ^ m:=by rw[Nat.shiftLeft_eq,Nat.mul_assoc,<-yCy];simp_all
 unfold signed sg;rw[e]
 grind
theorem Zf(s t:Bool)(a b i j:Nat):Datum.sum (.number s (a * 2 ^ i) (-(i:Int))) (.number t (b * 2 ^ j) (-(j:Int))) =
  some (.number (if sg s a+sg t b=0 then s&&t else decide (sg s a+sg t b<0)) ((sg s a+sg t b).natAbs * 2 ^ (max i j)) (-((max i j:Nat):Int))):=by
 unfold Datum.sum;have hb:min (-(i:Int)) (-(j:Int))=-((max i j:Nat):Int):=by omega
 have p:(-(i:Int) - -((max i j:Nat):Int)).toNat=max i j-i:=by omega
 have r:(-(j:Int) - -((max i j:Nat):Int)).toNat=max i j-j:=by omega
 simp only[hb,p,r,HB s a i (max i j) (by omega),HB t b j (max i j) (by omega),<-Int.add_mul];have o:(0:Int)<((2 ^ max i j:Nat):Int):=by have:0<2 ^ max i j:=Nat.pow_pos (by decide);omega
 have z:((sg s a+sg t b) * ((2 ^ max i j:Nat):Int)=0)↔sg s a+sg t b=0:=by grind [Int.mul_eq_zero]
 have l:((sg s a+sg t b) * ((2 ^ max i j:Nat):Int)<0)↔sg s a+sg t b<0:=by
  constructor
  ·intro h;rcases yC4 (sg s a+sg t b) 0 with m | m
   ·exact m
   ·have:=yBY m (Int.le_of_lt o);omega
  ·intro h;exact Int.mul_neg_of_neg_of_pos h o
 grind
theorem Ow(n:Int):sg (decide (n<0)) n.natAbs=n:=by
 unfold sg
 grind
theorem fl_add{a b:Int}(o:a.natAbs<2 ^ 52)(hb:b.natAbs<2 ^ 52):double.add (fl a) (fl b)=some (fl (a+b)):=by
 have h:a.natAbs<2 ^ 53:=by omega
 have l:b.natAbs<2 ^ 53:=by omega
 obtain ⟨i,hi⟩:=mo (decide (a<0)) h;obtain ⟨j,m⟩:=mo (decide (b<0)) l;unfold Format.add;rw[qA h,qA l,hi,m,Zf,Ow,Ow];simp only[Ch,Format.write];rw[Qj _ _ (by omega),Xe]
 grind
theorem fl_sub{a b:Int}(o:a.natAbs<2 ^ 52)(hb:b.natAbs<2 ^ 52):double.sub (fl a) (fl b)=some (fl (a-b)):=by
 have h:a.natAbs<2 ^ 53:=by omega
 have l:b.natAbs<2 ^ 53:=by omega
 obtain ⟨i,hi⟩:=mo (decide (a<0)) h;obtain ⟨j,m⟩:=mo (decide (b<0)) l;have hs:sg (!decide (b<0)) b.natAbs=-b:=by
  unfold sg
  grind
 unfold Format.sub;rw[qA h,qA l,hi,m];simp only[Datum.opposite];rw[Zf,Ow,hs];simp only[Ch,Format.write];rw[Qj _ _ (by omega),Xe,<-Int.sub_eq_add_neg]
 grind
theorem fl_mul{a b:Int}(s:0<=a)(u:0<=b)(l:a.natAbs<2 ^ 53)(hb:b.natAbs<2 ^ 53)(h:(a * b).natAbs<2 ^ 53):double.mul (fl a) (fl b)=some (fl (a * b)):=by
 obtain ⟨i,hi⟩:=mo (decide (a<0)) l;obtain ⟨j,o⟩:=mo (decide (b<0)) hb;have p:decide (a<0)=false:=by simp_all
 have r:decide (b<0)=false:=by simp_all
 have v:decide (a * b<0)=false:=by grind [Int.mul_nonneg]
 unfold Format.mul;rw[qA l,qA hb,hi,o];simp only[Datum.product,p,r,Ch,Format.write];have m:a.natAbs * 2 ^ i * (b.natAbs * 2 ^ j)=(a * b).natAbs * 2 ^ (i+j):=by grind
 grind [Qj,Xe]
theorem fl_int{n:Int}(h:n.natAbs<2 ^ 53):(double.read (fl n)).toInt .zero=some n:=by
 obtain ⟨k,hk⟩:=mo (decide (n<0)) h;rw[qA h,hk];unfold Datum.toInt Datum.integral;have a:(-(k:Int)).toNat=0:=by omega
 have b:(- -(k:Int)).toNat=k:=by omega
 have c:Toward.zero.cut (decide (n<0)) (n.natAbs * 2 ^ k) k=n.natAbs:=by
  by_cases i:n.natAbs=0
  ·rw[i,yCs];unfold Toward.cut;simp
  ·unfold Toward.cut
   grind [yS,Nat.one_shiftLeft,Nat.mul_div_cancel]
 simp only[a,b,Nat.shiftLeft_zero,c]
 grind [Ieee.signed]
end Go.Fl
end
section
namespace Go.Abs
variable[Gl]
def isC:D->Bool
 |.c _=>true
 |_=>false
section
variable{σ σ':ar}{M M':Nat->Option Nat}{Fz Fz':Nat->Prop}{w w':World}
theorem WU(ob:Ob):nz σ (σ++[ob]):=λb o h=>⟨o,by grind,rfl⟩
theorem PW(R:Rel σ M Fz w){z:List D}{b:Nat}(hb:σ[b]? = some (.cells z))(hM:M b=none)(hz:z.all isC=true){A:Nat->Option Nat}{j:Nat->Prop}{w1:World}{v:Value}
  (N:Rel (σ++[.cells z]) A j w1) (hv:V (σ++[.cells z]) A j w1 (.ptr σ.length 0 z.length) v) (EV:bD σ M Fz w (σ++[.cells z]) A j w1) :
  ∃ O, Rel σ O j w1 /\ V σ O j w1 (.ptr b 0 z.length) v /\ (∀ x c, M x = some c -> O x = some c) /\ (∀ x, x ≠ b -> O x = M x) /\
   ∀(σ0:ar)(M0:Nat->Option Nat)(Fz0:Nat->Prop)(w0:World),bD σ0 M0 Fz0 w0 σ M Fz w->σ0.length<=σ.length->σ0.length<=b->bD σ0 M0 Fz0 w0 σ O j w1:=by
 have ak:=(eY.1 hb).1;have p:∀x,x<σ.length->A x=M x:=λx u=>by have S:σ[x]? = some σ[x]:=eK u;obtain ⟨U,r,_,F⟩:=EV.keep x _ S;rw[EZ u,S] at r;simp only[au] at r;exact F (by rw[<-r])
 have s:(σ++[Ob.cells z])[σ.length]? = some (.cells z):=by simp
 obtain ⟨G,a,l,ha,rfl⟩:∃G a,A σ.length=some G/\a=(⟨G,0,none⟩:Addr)/\v=.pointer (some a):=by
  cases hv with
  |ptr a W h an hv=>rw[s] at h;simp only[au] at h;subst h;obtain ⟨c,r,m⟩:=hv (by simp[Ob.sz]);exact ⟨c,a,r,m,rfl⟩
 have Z:w.heap.size<=G:=by
  rcases EV.lE _ _ l with ⟨b0,h⟩ | h
  ·have hl:=(R.lt h).1;have:=N.inj b0 σ.length G (by rw[p b0 hl];exact h) l;omega
  ·exact h
 have e1:∀x c,(if x=b then A σ.length else M x)=some c->(x=b/\c=G)\/(x≠b/\M x=some c):=λx c h=>by
  split at h
  ·rw[l] at h;simp only[au] at h;exact .inl ⟨‹_›,h.symm⟩
  ·exact .inr ⟨‹_›,h⟩
 have aa:∀x c,M x=some c->x≠b:=λx c h e=>by rw[e,hM] at h;simp at h
 have E:∀x c,M x=some c->(if x=b then A σ.length else M x)=some c:=λx c h=>by rw[if_neg (aa x c h)];exact h
 have ab:∀(i:Nat) d,z[i]? = some d->∃x,d=.c x:=λi d h=>by have:=iE.1 hz d (yP h);cases d <;> first | exact ⟨_,rfl⟩ | simp[isC] at this
 refine ⟨λx=>if x=b then A σ.length else M x,⟨λx c h=>?_,λx x' c h h'=>?_,N.fz,N.gl⟩,?_,E,λx u=>if_neg u,λσ0 M0 Fz0 w0 E0 hl av=>?_⟩
 ·rcases e1 x c h with ⟨rfl,rfl⟩ | ⟨u,h⟩
  ·obtain ⟨r,W,o,m,F,h4⟩:=N.blk _ _ l;rw[s] at m;simp only[au] at m;subst m;refine ⟨r,_,o,hb,F,?_⟩;obtain ⟨ad,T,ho,hl,u⟩:=h4;refine ⟨ad,T,ho,hl,λi d v q1 q2=>?_⟩;obtain ⟨x,rfl⟩:=ab i d q1;obtain ⟨q3,q4⟩:=u i _ v q1 q2;refine ⟨?_,q4⟩;cases q3 with
   |c q3=>exact .c q3
  ·obtain ⟨_,ax,o0,k2,_,k4⟩:=R.blk x c h;have K:=(R.lt h).1;obtain ⟨r,W,o,m,F,h4⟩:=N.blk x c (by rw[p x K];exact h);rw[EZ K] at m;refine ⟨r,W,o,m,F,?_⟩;rw[k2] at m;simp only[au] at m;subst m;refine (bZ.down (WU (.cells z)) h4 k4).cut.sub nz.refl (λy c' X=>?_);unfold cV at X;split at X
   ·rename_i af;rw[p y af] at X;exact E y c' X
   ·simp at X
 ·rcases e1 x c h with ⟨g1,g2⟩ | ⟨_,g2⟩ <;> rcases e1 x' c h' with ⟨g3,g4⟩ | ⟨_,g4⟩
  ·rw[g1,g3]
  ·have:=(R.lt g4).2;omega
  ·have:=(R.lt g2).2;omega
  ·exact R.inj x x' c g2 g4
 ·subst ha;exact .ptr _ (.cells z) hb (cO _) λ_=>⟨G,by rw[if_pos rfl];exact l,rfl⟩
 ·have L:=E0.trans EV hl;refine ⟨L.size,L.frame,λx c h=>?_,L.fz,L.nj,L.pU,λx W u=>?_,L.out⟩
  ·rcases e1 x c h with ⟨rfl,rfl⟩ | ⟨_,h⟩
   ·exact L.lE _ _ l
   ·exact E0.lE _ _ h
  ·obtain ⟨U,r,m,F⟩:=E0.keep x W u;have K:=(eY.1 u).1;exact ⟨U,r,m,λe=>by rw[if_neg (by omega)];exact F e⟩
end
section
variable{P:Program}{orc:fj}{ops:Array Oper}{os:List aG}{q n0:Nat}{env:Nat->List D}{sg:Nat->ar}{wrs:Nat->List Nat}
variable{M0:Nat->Option Nat}{Fz0:Nat->Prop}{w0:World}{th:List Deferred}
def ot(os:List aG)(q:Nat):Prop:=∀i,i<q->∃t ao,os[i]? = some ⟨some t,ao,none⟩/\((∃z,ao=.alloc z/\z.all isC=true)\/(∃x,ao=.Ag x)\/∃n x,ao=.load n x)
theorem KL{P:Program}{orc:wx}{ao:kE}(h:(∃x,ao=.Ag x)\/∃n x,ao=.load n x){env:List D}{σ σ1:ar}{d:D}{wr:List Nat}(a:bp P orc ao env σ=some (d,σ1,wr)) :
  σ1=σ/\wr=[]/\∀aC:ar,(∀b off sz,Wc ao env=.ptr b off sz->aC[b]? = σ[b]?)->bp P orc ao env aC=some (d,aC,[]):=by
 rcases h with ⟨x,rfl⟩ | ⟨n,x,rfl⟩
 ·simp only[bp,au,aS] at a;obtain ⟨rfl,rfl,rfl⟩:=a;exact ⟨rfl,rfl,λ_ _=>rfl⟩
 ·simp only[bp] at a;split at a
  ·rename_i b off sz i;simp only[eR,cZ,au,aS] at a;obtain ⟨j,m,v,l,rfl,rfl,rfl⟩:=a;refine ⟨rfl,rfl,λaC h=>?_⟩;have e:=h b off sz i
   grind [nQ,bp]
  ·rename_i j off i;simp only[eR,cZ,au,aS] at a;obtain ⟨v,l,rfl,rfl,rfl⟩:=a;exact ⟨rfl,rfl,λaC _=>by grind [bp]⟩
  simp_all
theorem ot.step(H:ot os q)(T:Tr P orc ops os 0 n0 env sg wrs){i:Nat}(hi:i<q):∃t ao d,os[i]? = some ⟨some t,ao,none⟩/\env (i+1)=nD (env i) (some t) d/\wrs i=[]/\bp P (orc (some t)) ao (env i) (sg i)=some (d,sg (i+1),[]) /\
  ((∃z,ao=.alloc z/\z.all isC=true/\d=.ptr (sg i).length 0 z.length/\sg (i+1)=sg i++[.cells z])\/(((∃x,ao=.Ag x)\/∃n x,ao=.load n x)/\sg (i+1)=sg i)):=by
 obtain ⟨t,ao,u,j⟩:=H i hi;have:=T.step i _ u;simp only[eU,gZ,cy] at this;obtain ⟨⟨d,s1,w1⟩,o,s⟩:=this;simp only[aS] at s;obtain ⟨E,rfl,rfl⟩:=s;rcases j with ⟨z,rfl,F⟩ | j
 ·have A:=o;simp only[bp,au,aS] at A
  grind
 ·obtain ⟨G,K,_⟩:=KL j o
  grind
theorem ot.wr(H:ot os q)(T:Tr P orc ops os 0 n0 env sg wrs){i:Nat}(hi:i<q):wrs i=[]:=by obtain ⟨_,_,_,_,_,h,_⟩:=H.step T hi;exact h
theorem ot.blk(H:ot os q)(T:Tr P orc ops os 0 n0 env sg wrs){i t:Nat}{z:List D}(hi:i<q)(j:os[i]? = some ⟨some t,.alloc z,none⟩):z.all isC=true/\env (i+1)=nD (env i) (some t) (.ptr (sg i).length 0 z.length)/\sg (i+1)=sg i++[.cells z]:=by
 obtain ⟨o,ao,d,s,u,_,_,x⟩:=H.step T hi
 simp_all
structure Lt (os:List aG) (q:Nat) (env:Nat->List D) (sg:Nat->ar) (M0:Nat->Option Nat) (Fz0:Nat->Prop) (w0:World) (th:List Deferred) (S:Nat->Prop) (k:Nat) (M:Nat->Option Nat) (Fz:Nat->Prop) (w:World) (a:Act):Prop where
 SQ:a.tmps.size=(env k).length
 th:a.defers=th
 rel:Rel (sg k) M Fz w
 tmp:∀t d v,(∀i x,i<q->os[i]? = some x->x.dst=some t->S i)->(env k)[t]? = some d->a.tmps[t]? = some v->V (sg k) M Fz w d v
 non:∀i t z,i<q->os[i]? = some ⟨some t,.alloc z,none⟩->¬S i->M (sg i).length=none
 evo:bD (sg 0) M0 Fz0 w0 (sg k) M Fz w
theorem Inv.late{S:Nat->Prop}{M:Nat->Option Nat}{Fz:Nat->Prop}{w:World}{a:Act}(I:Inv os n0 env sg wrs M0 Fz0 w0 th S M Fz w a)(T:Tr P orc ops os 0 n0 env sg wrs)(O:lN P orc)(H:ot os q)
  (hS:∀i,q<=i->i<n0->S i) (hq:q<=n0) (K:∀b,M0 b≠none->b<(sg 0).length):Lt os q env sg M0 Fz0 w0 th S n0 M Fz w a:=by
 have W:=T.le;refine ⟨by rw[I.SQ,T.AG O T.le],I.th,⟨λb c h=>?_,I.inj,I.fz,Gl.mono I.Ao.fz I.gl0⟩,λt d v hc u x=>?_,λi t z hi R hn=>?_,?_⟩
 ·obtain ⟨u,x,s⟩:=I.own b c h;have hb:b<(sg n0).length:=by
   rcases s with ⟨s,_⟩ | ⟨j,U,_,_,s⟩
   ·exact EY s (T.cC O (by omega) T.le)
   ·exact EY s (T.cC O (by omega) T.le)
  have A:(sg n0)[b]? = some (sg n0)[b]:=eK hb;obtain ⟨o,X,Z⟩:=I.blk b c h n0 _ (cO _) A (λi hi hw=>⟨λ_=>by
   rcases rE i q with h | h
   ·rw[H.wr T h] at hw
    grind
   simp_all,λ_=>hi⟩)
  simp_all
 ·exact I.tmp t n0 (cO _) (λi o hi R hd=>⟨λ_=>by grind,λ_=>hi⟩) d v u x
 ·cases E:M (sg i).length with
  |none=>rfl
  |some c=>
   obtain ⟨_,_,s⟩:=I.own _ c E;have l1:=T.cC O (m:=0) (m':=i) (by omega) (by omega);have l2:(sg (i+1)).length=(sg i).length+1:=by rw[(H.blk T hi R).2.2];simp
   rcases s with ⟨s,_⟩ | ⟨j,U,aa,X,Z⟩
   ·omega
   ·rcases Vo j i with h | h | h
    ·have:=T.cC O (m:=j+1) (m':=i) (by omega) (by omega);omega
    ·simp_all
    ·have:=T.cC O (m:=i+1) (m':=j) (by omega) (by omega);omega
 ·refine ⟨I.Ao.size,I.Ao.frame,λb c h=>?_,I.Ao.fz,λc h=>?_,I.Ao.pU,λb ob hb=>?_,I.Ao.out⟩
  ·rcases I.Ao.lE b c h with h | h
   ·grind
   omega
  ·rcases I.Ao.nj c h with h | h
   ·simp_all
   omega
  ·obtain ⟨F,u,x⟩:=T.sz O (by omega) (cO n0) b ob hb;refine ⟨F,u,by omega,λ_=>?_⟩;have ab:=(eY.1 hb).1;cases E:M0 b with
   |some c=>exact I.Ao.ext b c E
   |none=>
    cases G:M b with
    |none=>rfl
    |some c=>
     obtain ⟨_,_,s⟩:=I.own b c G;rcases s with ⟨_,s⟩ | ⟨j,U,_,s,_⟩
     ·simp_all
     ·have:=T.cC O (m:=0) (m':=j) (by omega) (by omega);omega
theorem ot.off(H:ot os q)(T:Tr P orc ops os 0 n0 env sg wrs){i k t:Nat}{z:List D}(hi:i<q)(o:os[i]? = some ⟨some t,.alloc z,none⟩)(j:i<k)(hk:k<os.length)(hb:¬BN ops i k):(sg i).length∉wrs k:=by
 obtain ⟨y,s⟩:=T.at hk;rcases T.pair i k _ y j o s with h | h
 ·simp_all
 ·obtain ⟨_,_,_,_,_,u,_⟩:=fW h;have x:(sg (i+1)).length=(sg i).length+1:=by rw[(H.blk T hi o).2.2];simp
  grind [dx]
theorem ot.look(T:Tr P orc ops os 0 n0 env sg wrs){i k t b off sz:Nat}{ao:kE}(o:os[i]? = some ⟨some t,ao,none⟩)(hl:(∃x,ao=.Ag x)\/∃n x,ao=.load n x)(u:Wc ao (env i)=.ptr b off sz)(j:i<k)(hk:k<os.length)(hb:¬BN ops i k):b∉wrs k:=by
 obtain ⟨y,s⟩:=T.at hk;rcases T.pair i k _ y j o s with h | h
 ·simp_all
 ·obtain ⟨_,_,_,z,_⟩:=fW h
  grind [Wc,safe,dx,gZ,cat]
theorem IK{a:Act}{b:Option Nat}{v i:Value}{t:Nat}(h:(a.put b v).tmps[t]? = some i):(b=some t/\i=v)\/(b≠some t/\a.tmps[t]? = some i):=by
 cases b with
 |none=>exact .inr ⟨by simp,h⟩
 |some s=>
  simp only[Act.put,ZM] at h
  grind
theorem DM{a:Act}{b:Option Nat}{v:Value}:(a.put b v).tmps.size=a.tmps.size:=by cases b <;> simp[Act.put]
theorem IW{a:Act}{b:Option Nat}{v:Value}:(a.put b v).defers=a.defers:=by cases b <;> rfl
theorem Rw(O:lN P orc)(T:Tr P orc ops os 0 n0 env sg wrs)(H:ot os q)(hq:q<=n0)(b4:∀i j,q<=i->i<j->n0<=j->j<os.length->BN ops i j)
  (hg:∀(i:Nat) x,os[i]? = some x->x.g=none) (a8:∀(i j:Nat) x y t,i<q->i<j->os[i]? = some x->os[j]? = some y->x.dst=some t->y.dst≠some t) (a9:∀(i j:Nat) x y t,i<q->i<=j->os[i]? = some x->os[j]? = some y->y.dst=some t->t∉yr x)
  (b5:∀listed:Array Bool,listed.size=ops.size->Region.ready .any ops listed=[]->∀i,i<ops.size->gy listed i) {Q:Exit->Act->World->Prop}
  (hQ:∀a' w' M' Fz',a'.defers=th->Rel (sg os.length) M' Fz' w'->dy (sg os.length) M' Fz' w' (env os.length) a'.tmps->bD (sg 0) M0 Fz0 w0 (sg os.length) M' Fz' w'->Q .normal a' w') :
  ∀ (K : Nat) (listed : Array Bool) (k : Nat) (M : Nat -> Option Nat) (Fz : Nat -> Prop) (w : World) (a : Act), listed.size = ops.size -> n0 <= k -> k <= os.length -> (∀ i, q <= i -> i < ops.size -> (gy listed i ↔ i < k)) -> fV ops (gy listed) ->
   SG ops.size listed<=K->Lt os q env sg M0 Fz0 w0 th (gy listed) k M Fz w a->wpAny P .any ops Q K listed a w:=by
 have c2:=T.len;have fin:∀(listed:Array Bool)(k:Nat)(M:Nat->Option Nat)(Fz:Nat->Prop)(w:World)(a:Act),n0<=k->k<=os.length->(∀i,q<=i->i<ops.size->(gy listed i↔i<k))->(∀i,i<ops.size->gy listed i) ->
   Lt os q env sg M0 Fz0 w0 th (gy listed) k M Fz w a->Q .normal a w:=λlisted k M Fz w a hk r hS aa L=>by
  have b6:k=os.length:=by grind
  subst b6;exact hQ a w M Fz L.th L.rel ⟨L.SQ,λt d v h1 h2=>L.tmp t d v (λi x hi _ _=>aa i (by omega)) h1 h2⟩ L.evo
 intro K;induction K with
 |zero=>
  intro listed k M Fz w a bb hk r hS hC hf L;have aa:=uz (N:=ops.size) (listed:=listed) (by omega);refine ⟨?_,fin listed k M Fz w a hk r hS aa L⟩;cases hr:Region.ready .any ops listed with
  |nil=>rfl
  |cons j l=>
   have hm:j∈Region.ready .any ops listed:=by simp_all
   rw[mem_ready] at hm
   grind [gy]
 |succ K ih=>
  intro listed k M Fz w a bb hk r hS hC hf L;refine ⟨λhr=>fin listed k M Fz w a hk r hS (b5 listed bb hr) L,λj hj=>?_⟩;rw[mem_ready] at hj;obtain ⟨h1,o,ho,b7⟩:=hj;have b8:j<ops.size:=(BS.1 ho).1;have ak:¬gy listed j:=by grind [gy]
  have av:∀o' e,ops[j]? = some o'->e∈o'.after->Region.binds .any e=true->gy listed e.on:=λo' e u he b9=>by rw[ho] at u;simp only[au] at u;subst u;exact b7 e he b9
  have a1:fV ops (gy (listed.setIfInBounds j true)):=by
   intro i o' e hi u he hb;rw[IE (by omega)] at hi ⊢;rcases hi with hi | rfl
   ·exact .inl (hC i o' e hi u he hb)
   simp_all
  have hu:=Cx (N:=ops.size) (listed:=listed) (k:=j) (by omega) b8 ak;have cg:∀i,i<q->¬gy listed i->¬BN ops i j:=λi hi hn hb=>hn (hb.ready hC av);rcases rE j q with Z | Z
  ·
   obtain ⟨t,ao,d,E,ab,bc,ax,a2⟩:=H.step T Z;obtain ⟨o',u,F⟩:=T.comp j _ E;rw[ho] at u;simp only[au] at u;subst u;unfold bn at F;split at F
   ·rename_i g p a5 A;simp only[au,aG.mk.injEq] at F;obtain ⟨bd,rfl,rfl⟩:=F;have same:∀s,s∈yr (⟨some t,p,none⟩:aG)->(env k)[s]? = (env j)[s]?:=λs hs=>
     T.yQ O (m:=j) (m':=k) (t:=s) (by omega) r (λi x hi _ X hd=>a9 j i _ x s Z hi E X hd hs)
    have hE:dy (sg k) M Fz w (jS (yr ⟨some t,p,none⟩) (env k)) a.tmps:=by
     refine ⟨by grind [Lt.SQ,jS],λi d v h1 h2=>?_⟩;rw[pQ] at h1;simp only[cy] at h1;obtain ⟨d0,h3,h4⟩:=h1;by_cases ht:(yr ⟨some t,p,none⟩).contains i=true
     ·rw[if_pos ht] at h4;subst h4;refine L.tmp i d0 v (λm x hm X hd=>?_) h3 h2;rcases rE m j with be | be
      ·rcases T.pair m j x _ be X E with hb | hb
       ·grind
       ·obtain ⟨h5,_⟩:=fW hb;exact absurd (show i∈yr ⟨some t,p,none⟩ by simp_all) (h5 i hd)
      grind
     ·rw[if_neg ht] at h4;subst h4;exact .any v
    have S:=nH (ops:=ops) (o:=o) (g:=none) (b:=true) hE a5 rfl;have a0:∀R d' v',(env k)[R]? = some d'->a.tmps[R]? = some v'->R≠t->(∀i x,i<q->os[i]? = some x->x.dst=some R->gy (listed.setIfInBounds j true) i)->V (sg k) M Fz w d' v':=λR d' v' q1 q2 e hc=>by
     refine L.tmp R d' v' (λi x hi X hd=>?_) q1 q2;rcases (IE (by omega) i).1 (hc i x hi X hd) with h | h
     ·exact h
     grind
    have c3:∀d',(env k)[t]? = some d'->d'=d:=λd' q1=>by
     have ch:=T.yQ O (m:=j+1) (m':=k) (t:=t) (by omega) r (λi x hi _ X hd=>a8 j i _ x t Z (by omega) E X rfl hd);rw[ch,ab] at q1;simp only[nD,yBJ,if_true] at q1
     simp_all
    have bh:∀i,q<=i->i<ops.size->(gy (listed.setIfInBounds j true) i↔i<k):=λi hi bi=>by rw[IE (by omega),hS i hi bi];omega
    unfold wpOp;rw[ho];simp only[S,if_true];left;rcases a2 with ⟨z,rfl,hz,rfl,an⟩ | ⟨a6,an⟩
    ·refine Km (O o.dst) L.rel hE A rfl _ λv w1 M1 ad R1 hv EV _=>?_;have ck:(sg j).length<(sg (j+1)).length:=by grind
     have bk:=T.SW O (m:=j+1) (m':=k) (b:=(sg j).length) (by omega) r ck (λi hi a7 hw=>by
      rcases rE i q with h | h
      ·rw[H.wr T h] at hw
       grind
      ·exact H.off T Z E (by omega) (by omega) (λhb=>ak (hb.in hC ((hS i h (by omega)).2 a7))) hw)
     rw[an,KP (cO _),yC3,wR] at bk;obtain ⟨M2,R2,c4,bl,bt,ax⟩:=PW L.rel bk (L.non j t z Z E ak) hz R1 hv EV;refine ih (listed.setIfInBounds j true) k M2 ad w1 _ (by grind) hk r bh a1 (by omega) ⟨by rw[DM,L.SQ],by rw[IW,L.th],R2,λR d v' hc q1 q2=>?_,λi R z' hi G hn=>?_,?_⟩
     ·rcases IK q2 with ⟨e,rfl⟩ | ⟨e,q2⟩
      ·grind
      ·exact (a0 R d v' q1 q2 (λh=>e (by grind)) hc).sub nz.refl bl EV.fz EV.pU
     ·have cm:i≠j:=λe=>hn ((IE (by omega) i).2 (.inr e));have c5:(sg (i+1)).length=(sg i).length+1:=by rw[(H.blk T hi G).2.2];simp
      have c6:(sg (j+1)).length=(sg j).length+1:=by grind
      rw[bt _ (by
       intro e;rcases Nat.lt_or_gt_of_ne cm with h | h
       ·have:=T.cC O (m:=i+1) (m':=j) (by omega) (by omega);omega
       ·have:=T.cC O (m:=j+1) (m':=i) (by omega) (by omega);omega)]
      exact L.non i R z' hi G (λh=>hn ((IE (by omega) i).2 (.inl h)))
     ·exact ax _ _ _ _ L.evo (T.cC O (by omega) r) (T.cC O (by omega) (by omega))
    ·have bu:bp P (orc (some t)) p (env j) (sg j)=some (d,sg j,[]):=by grind
     have U:∀σ,bp P (orc (some t)) p (jS (yr ⟨some t,p,none⟩) (env k)) σ=bp P (orc (some t)) p (env j) σ:=λσ=>by
      refine xV (ma A) (λx X=>?_);have bv:∀n,x=.t n->n∈yr (⟨some t,p,none⟩:aG):=λn hn=>by
       subst hn;simp only[yr,ld,List.mem_filterMap]
       grind
      rw[yY bv];cases x with
      |k d=>rfl
      |t n=>simp only[aQ.ev,same n (bv n rfl)]
     have bw:bp P (orc o.dst) p (jS (yr ⟨some t,p,none⟩) (env k)) (sg k)=some (d,sg k,[]):=by
      rw[bd,U];refine (KL a6 bu).2.2 (sg k) (λb off sz X=>?_);by_cases W:b<(sg j).length
      ·exact T.SW O (m:=j) (m':=k) (b:=b) (by omega) r W (λi hi a7 hw=>by
        rcases rE i q with h | h
        ·rw[H.wr T h] at hw
         grind
        ·exact ot.look T E a6 X (by omega) (by omega) (λhb=>ak (hb.in hC ((hS i h (by omega)).2 a7))) hw)
      ·exfalso;rcases a6 with ⟨x,rfl⟩ | ⟨n,x,rfl⟩
       ·grind [Wc]
       grind [Wc,bp,nQ]
     refine Km (O o.dst) L.rel hE A bw _ λv w1 M1 ad R1 hv EV _=>?_;refine ih (listed.setIfInBounds j true) k M1 ad w1 _ (by grind) hk r bh a1 (by omega) ⟨by rw[DM,L.SQ],by rw[IW,L.th],R1,λR d' v' hc q1 q2=>?_,λi R z' hi G hn=>?_,?_⟩
     ·rcases IK q2 with ⟨e,rfl⟩ | ⟨e,q2⟩
      ·grind
      ·exact (a0 R d' v' q1 q2 (λh=>e (by grind)) hc).mono EV
     ·have W:(sg i).length<(sg k).length:=by
       have h1:(sg (i+1)).length=(sg i).length+1:=by rw[(H.blk T hi G).2.2];simp
       have:=T.cC O (m:=i+1) (m':=k) (by omega) r;omega
      obtain ⟨co,k1,_,k3⟩:=EV.keep _ _ (eK W);rw[eK W] at k1;simp only[au] at k1;rw[k3 (by grind)];exact L.non i R z' hi G (λh=>hn ((IE (by omega) i).2 (.inl h)))
     ·exact L.evo.trans EV (T.cC O (by omega) r)
   simp_all
  ·have c7:k<=j:=by
    simp_all
   have cp:j=k:=by
    rcases rE k j with h | h
    ·have hb:=b4 k j (by omega) h (by omega) (by omega);have:=(hS k (by omega) (by omega)).1 (hb.ready hC av);omega
    ·omega
   subst cp;obtain ⟨ao,E⟩:=T.at (i:=j) (by omega);obtain ⟨o',u,F⟩:=T.comp j ao E;rw[ho] at u;simp only[au] at u;subst u;have af:=T.step j ao E;have b0:=hg j ao E;have hE:dy (sg j) M Fz w (jS (yr ao) (env j)) a.tmps:=by
    refine ⟨by grind [Lt.SQ,jS],λi d v h1 h2=>?_⟩;rw[pQ] at h1;simp only[cy] at h1;obtain ⟨d0,h3,h4⟩:=h1;by_cases ht:(yr ao).contains i=true
    ·rw[if_pos ht] at h4;subst h4;refine L.tmp i d0 v (λm x hm X hd=>?_) h3 h2;rcases T.pair m j x ao (by omega) X E with hb | hb
     ·grind
     ·obtain ⟨h5,_⟩:=fW hb;exact absurd (show i∈yr ao by simp_all) (h5 i hd)
    ·rw[if_neg ht] at h4;subst h4;exact .any v
   unfold bn at F;split at F
   ·rename_i g p a5 A;simp only[au] at F;subst F;simp only at b0;subst b0;have S:=nH (ops:=ops) (o:=o) (g:=none) (b:=true) hE a5 rfl;have U:bp P (orc o.dst) p (jS (yr ⟨o.dst,p,none⟩) (env j)) (sg j)=bp P (orc o.dst) p (env j) (sg j):=by
     refine xV (ma A) (λx X=>yY (λn hn=>?_));subst hn;simp only[yr,ld,List.mem_filterMap]
     grind
    simp only[eU,gZ,cy] at af;obtain ⟨⟨d,σ1,bU⟩,cv,h⟩:=af;simp only[aS] at h;obtain ⟨ab,an,bc⟩:=h;subst an bc;unfold wpOp;rw[ho];simp only[S,if_true];left;refine Km (O o.dst) L.rel hE A (by rw[U];exact cv) _ λv w1 M1 ad R1 hv EV _=>?_;refine ih (listed.setIfInBounds j true) (j+1) M1 ad w1 _ (by grind) (by omega) (by omega) (λi hi bi=>?_) a1 (by omega) ⟨by rw[DM,L.SQ,T.AG O (m:=j) (by omega),T.AG O (m:=j+1) (by omega)],by rw[IW,L.th],R1,λR d' v' hc q1 q2=>?_,λi c0 z' hi G hn=>?_,?_⟩
    ·grind [IE]
    ·rw[<-ab] at q1;rcases IK q2 with ⟨e,rfl⟩ | ⟨e,q2⟩
     ·rw[e] at q1;simp only[nD,yBJ,if_true] at q1
      simp_all
     ·have q3:(env j)[R]? = some d':=by
       rw[<-q1];cases hd:o.dst with
       |none=>rfl
       |some s=>grind [nD,List.getElem?_set_ne]
      refine (L.tmp R d' v' (λi x hi X hd=>?_) q3 q2).mono EV
      grind [IE]
    ·have b1:¬gy listed i:=λh=>hn ((IE (by omega) i).2 (.inl h));have b2:=H.off T hi G (by omega) (by omega) (cg i hi b1);have W:(sg i).length<(sg j).length:=by
      have h1:(sg (i+1)).length=(sg i).length+1:=by rw[(H.blk T hi G).2.2];simp
      have:=T.cC O (m:=i+1) (m':=j) (by omega) (by omega);omega
     have b3:(sg j)[(sg i).length]? = some (sg j)[(sg i).length]:=eK W;obtain ⟨co,k1,_,k3⟩:=EV.keep _ _ b3;rw[(T.frame O (i:=j) (by omega)).2 _ W b2,b3] at k1;simp only[au] at k1;rw[k3 (by simp_all)];exact L.non i c0 z' hi G b1
    ·exact L.evo.trans EV (T.cC O (by omega) (by omega))
   simp_all
theorem Un{M:Nat->Option Nat}{Fz:Nat->Prop}{w:World}{a:Act}(O:lN P orc)(T:Tr P orc ops os 0 n0 env sg wrs)(H:ot os q)(hq:q<=n0)(G:∀i j,q<=i->i<j->n0<=j->j<os.length->BN ops i j)
  (hg:∀(i:Nat) x,os[i]? = some x->x.g=none) (u:∀(i j:Nat) x y t,i<q->i<j->os[i]? = some x->os[j]? = some y->x.dst=some t->y.dst≠some t) (v:∀(i j:Nat) x y t,i<q->i<=j->os[i]? = some x->os[j]? = some y->y.dst=some t->t∉yr x)
  (U:∀listed:Array Bool,listed.size=ops.size->Region.ready .any ops listed=[]->∀i,i<ops.size->gy listed i) (R:Rel (sg 0) M Fz w) (E:dy (sg 0) M Fz w (env 0) a.tmps) {Q:Exit->Act->World->Prop}
  (hQ:∀s w' M' Fz',s.defers=a.defers->Rel (sg os.length) M' Fz' w'->dy (sg os.length) M' Fz' w' (env os.length) s.tmps->bD (sg 0) M Fz w (sg os.length) M' Fz' w'->Q .normal s w') :
  wpAny P .any ops Q ops.size (Array.replicate ops.size false) a w:=by
 have an:=T.len;have W:=T.le;have z:∀b,M b≠none->b<(sg 0).length:=λb h=>by
  cases hM:M b with
  |none=>simp_all
  |some c=>exact (R.lt hM).1
 have X:∀(l:Nat)(listed:Array Bool)(M':Nat->Option Nat)(Fz':Nat->Prop)(w':World)(s:Act),listed.size=ops.size->SG ops.size listed<=l->fV ops (gy listed)->(∀i,gy listed i->i<n0) ->
   Inv os n0 env sg wrs M Fz w a.defers (gy listed) M' Fz' w' s->wpAny P .any ops Q l listed s w':=by
  intro l;induction l with
  |zero=>intro listed M' Fz' w' s K hu S L I;have A:=uz (N:=ops.size) (listed:=listed) (by omega);exact Rw O T H hq G hg u v U hQ 0 listed n0 M' Fz' w' s K (cO _) W (λi _ hi=>⟨λh=>L i h,λ_=>A i hi⟩) S (by omega) (I.late T O H (λi _ h=>A i (by omega)) hq z)
  |succ l ih=>
   intro listed M' Fz' w' s K hu S L I;by_cases m:∀i,q<=i->i<n0->gy listed i
   ·exact Rw O T H hq G hg u v U hQ (l+1) listed n0 M' Fz' w' s K (cO _) W (λi hi _=>⟨λh=>L i h,λh=>m i hi h⟩) S hu (I.late T O H m hq z)
   ·refine ⟨λhr=>?_,λj hj=>?_⟩
    ·grind
    ·rw[mem_ready] at hj;obtain ⟨h1,o,ho,aa⟩:=hj;have ab:j<ops.size:=(BS.1 ho).1;have Z:¬gy listed j:=by
      grind [gy]
     have F:∀o' e,ops[j]? = some o'->e∈o'.after->Region.binds .any e=true->gy listed e.on:=λo' e r he ad=>by rw[ho] at r;simp only[au] at r;subst r;exact aa e he ad
     have af:j<n0:=by
      rcases rE j n0 with h | h
      ·exact h
      ·exact absurd (λi hi av=>(G i j hi (by omega) h (by omega)).ready S F) m
     refine I.step (S':=gy (listed.setIfInBounds j true)) T O S af Z F (λi=>IE (by omega) i) _ λa1 w1 M1 ak I1=>?_;refine ih (listed.setIfInBounds j true) M1 ak w1 a1 (by grind) ?_ ?_ ?_ I1
     ·have:=Cx (N:=ops.size) (listed:=listed) (k:=j) (by omega) ab Z;omega
     ·intro i o' e hi r he hb;rw[IE (by omega)] at hi ⊢;rcases hi with hi | rfl
      ·exact .inl (S i o' e hi r he hb)
      simp_all
     grind [IE]
 have p:∀i,¬gy (Array.replicate ops.size false) i:=λi h=>by grind [gy,iL]
 refine X ops.size _ M Fz w a (by simp) ?_ (λj o e hj=>absurd hj (p j)) (λi hi=>absurd hi (p i)) (Inv.start R rfl E (λi _=>⟨λh=>absurd h (p i),λh=>by omega⟩) T O)
 grind [SG]
def wg(g:Nat->Nat)(o:Oper):Oper:={ o with after:=o.after.map λe=>{ e with on:=g e.on } }
structure Perm (ops ops2:Array Oper) (f g:Nat->Nat):Prop where
 size:ops2.size=ops.size
 get:∀i,i<ops.size->ops2[i]? = (ops[f i]?).map (wg g)
 TQ:∀i,i<ops.size->f i<ops.size
 HP:∀i,i<ops.size->g i<ops.size
 fg:∀i,i<ops.size->f (g i)=i
 gf:∀i,i<ops.size->g (f i)=i
 guard:∀(i:Nat) o,ops[i]? = some o->o.guard=none
 on:∀(i:Nat) o e,ops[i]? = some o->e∈o.after->Region.binds .any e=true->e.on<ops.size
theorem reOn_wp{g:Nat->Nat}{o:Oper}{a:Act}{w:World}{K:Act->World->Prop}{Q:Exit->Act->World->Prop}(h:(wg g o).wp P a w K Q\/((wg g o).asks P a w/\LetsOut Q)):o.wp P a w K Q\/(o.asks P a w/\LetsOut Q):=h
theorem yG(l:Array Bool)(i:Nat)(b a:Bool)(h:i<l.size):l.getD i b=l.getD i a:=by simp_all
theorem Eb{ops b:Array Oper}{f g:Nat->Nat}(X:Perm ops b f g):∀(listed a:Array Bool),listed.size=ops.size->a.size=ops.size->(∀i,i<ops.size->a.getD i true=listed.getD (f i) true)->∀j,j∈Region.ready .any ops listed->g j∈Region.ready .any b a:=by intro listed a hs p hl j h;rw[mem_ready] at h ⊢;obtain ⟨v,o,r,x⟩:=h;have h:j<ops.size:=(BS.1 r).1;refine ⟨by rw[hl _ (X.HP j h),X.fg j h];exact v,wg g o,by rw[X.get _ (X.HP j h),X.fg j h,r];rfl,λe s hb=>?_⟩;simp only[wg,Array.mem_map] at s;obtain ⟨u,m,rfl⟩:=s;have l:=X.on j o u r m hb;rw[yG _ _ false true (by rw[p];exact X.HP _ l),hl _ (X.HP _ l),X.fg _ l,yG _ _ true false (by omega)];exact x u m hb
theorem perm_wp{ops m:Array Oper}{f g:Nat->Nat}(X:Perm ops m f g){Q:Exit->Act->World->Prop}:∀(p:Nat)(listed b:Array Bool)(a:Act)(w:World),listed.size=ops.size->b.size=ops.size->(∀i,i<ops.size->b.getD i true=listed.getD (f i) true) ->
  wpAny P .any m Q p b a w->wpAny P .any ops Q p listed a w:=by
 have v:∀(listed b:Array Bool),listed.size=ops.size->b.size=ops.size->(∀i,i<ops.size->b.getD i true=listed.getD (f i) true)->Region.ready .any ops listed=[]->Region.ready .any m b=[]:=by
  intro listed b hs r hl h;cases A:Region.ready .any m b with
  |nil=>rfl
  |cons i l=>
   exfalso;have N:i∈Region.ready .any m b:=by simp_all
   rw[mem_ready] at N;obtain ⟨x,o,s,E⟩:=N;have hi:i<ops.size:=by grind
   rw[X.get i hi] at s;simp only[cy] at s;obtain ⟨O,y,rfl⟩:=s;have:f i∈Region.ready .any ops listed:=by rw[mem_ready];refine ⟨by simp_all,O,y,λe R hb=>?_⟩;have z:=X.on _ O e y R hb;have:=E { e with on:=g e.on } (by simp only[wg,Array.mem_map];grind) hb;simp only at this;rw[yG _ _ false true (by grind),hl _ (X.HP _ z),X.fg _ z,yG _ _ true false (by omega)] at this;omega
   simp_all
 intro p;induction p with
 |zero=>
  intro listed b a w hs r hl h;refine ⟨?_,h.2⟩;cases A:Region.ready .any ops listed with
  |nil=>rfl
  |cons j l=>
   have:=Eb X listed b hs r hl j (by simp_all);rw[h.1] at this
   simp_all
 |succ p ih=>
  intro listed b a w hs r hl h;refine ⟨λA=>h.1 (v listed b hs r hl A),λj F=>?_⟩;have G:=Eb X listed b hs r hl j F;have:=h.2 (g j) G;rw[mem_ready] at F;obtain ⟨_,o,s,_⟩:=F;have u:j<ops.size:=(BS.1 s).1;have L:m[g j]? = some (wg g o):=by rw[X.get _ (X.HP j u),X.fg j u,s];rfl
  have S:o.guard=none:=X.guard j o s;refine wpOp_mono (K:=wpAny P .any m Q p (b.setIfInBounds (g j) true)) (λa w T=>ih _ _ a w (by simp[hs]) (by grind) (λi hi=>?_) T) ?_
  ·have U:(b.setIfInBounds (g j) true).getD i true=if g j=i then true else b.getD i true:=by
    simp only[yBa,ZM]
    grind
   have W:(listed.setIfInBounds j true).getD (f i) true=if j=f i then true else listed.getD (f i) true:=by
    simp only[yBa,ZM]
    grind
   rw[U,W,hl i hi];by_cases x:g j=i
   ·rw[if_pos x,if_pos (by rw[<-x,X.fg j u])]
   ·rw[if_neg x,if_neg (λZ=>x (by rw[Z,X.gf i hi]))]
  ·unfold wpOp at this ⊢;rw[L] at this;rw[s];have w1:Region.wanted (wg g o) (yielded m a.tmps)=true:=by grind [Go.Region.wanted,wg]
   have w2:Region.wanted o (yielded ops a.tmps)=true:=by grind [Go.Region.wanted]
   simp only[w1,if_true] at this;simp only[w2,if_true]
   grind [reOn_wp]
theorem KJ{ops a:Array Oper}{f g:Nat->Nat}(X:Perm ops a f g){i j:Nat}(h:BN ops i j):BN a (g i) (g j):=by
 have l:∀{j o},ops[j]? = some o->a[g j]? = some (wg g o):=λ{j o} b=>by have p:=(BS.1 b).1;rw[X.get _ (X.HP j p),X.fg j p,b];rfl
 induction h with
 |one b m hb hi=>exact .one (l b) (by simp only[wg,Array.mem_map];exact ⟨_,m,rfl⟩) (e:={ on:=g _,ground:=_ }) hb (by simp_all)
 |more b m hb hk _ ih=>exact .more (l b) (by simp only[wg,Array.mem_map];exact ⟨_,m,rfl⟩) (e:={ on:=g _,ground:=_ }) hb (by simp_all) ih
def isLt(o:aG):Bool:=match o with
 | ⟨some _,.alloc z,none⟩=>z.all isC
 | ⟨some _,.Ag _,none⟩=>true
 | ⟨some _,.load _ _,none⟩=>true
 |_=>false
def isCl(o:aG):Bool:=match o.op with | .call ..=>true | _=>false
def PZ:Nat->Nat->List aG->List Nat->List Nat
 |i, m, o :: os, b :: bs => match isLt o && Nat.beq (Nat.lor b m) m with
  |true=>i::PZ (i+1) (Nat.lor m (2 ^ i)) os bs
  |false=>PZ (i+1) m os bs
 |_,_,_,_=>[]
def permP(hs:List Nat)(n:Nat):List Nat:=hs++(List.range n).filter λi=>hs.all λj=>!Nat.beq j i
def oa(a:List Nat)(os:List aG):List aG:=a.map λi=>os.getD i default
def KG(a:List Nat)(i:Nat):Nat:=a.getD i 0
def Sq(a:List Nat)(i:Nat):Nat:=a.findIdx λj=>Nat.beq j i
def Wd(a:List Nat)(n:Nat):Bool:=Nat.beq a.length n&&(List.range n).all λi=>(Nat.blt (KG a i) n&&Nat.beq (Sq a (KG a i)) i)&&(Nat.blt (Sq a i) n&&Nat.beq (KG a (Sq a i)) i)
def Is(a b:List Nat)(q n0:Nat)(os:List aG):Bool:=
 ((List.range os.length).all λj=>Nat.blt j n0 || (List.range j).all λi=>Nat.blt i q || (a.getD (KG b j) 0).testBit (KG b i)) &&
 (((os.take q).all isLt&&os.all (λo=>o.g.isNone)) &&
 (((List.range os.length).all λj=>(List.range j).all λi=>!Nat.blt i q || (match (os.getD i default).dst,(os.getD j default).dst with | some s,some t=>!Nat.beq s t | _,_=>true)) &&
 (((List.range os.length).all λj=>(List.range (j+1)).all λi=>!Nat.blt i q || (match (os.getD j default).dst with | some t=>!(yr (os.getD i default)).contains t | _=>true)) &&
 (Wd b os.length&&(Nat.ble q n0&&Nat.ble n0 os.length)))))
def Ph(a b:List Nat)(is:List dZ):Bool:=
 (List.range is.length).all λj=>(List.range j).all λi=>(a.getD (KG b j) 0).testBit (KG b i) || apart (is.getD i default) (is.getD j default)
def RP(os:List aG)(a:List Nat):Option (List Nat×Nat×Nat):=
 let hs:=PZ 0 0 os a
 let i:=(os.takeWhile λo=>!isCl o).length
 match hs.any λh=>Nat.blt i h with
 |false=>none
 |true=>
  let b:=permP hs os.length
  let n0:=hs.length+(((oa b os).drop hs.length).takeWhile λo=>!isCl o).length
  match Nat.beq b.length os.length&&Is a b hs.length n0 (oa b os) with
  |true=>some (b,hs.length,n0)
  |false=>none
theorem YF{os:List aG}{a b:List Nat}{q n0:Nat}(h:RP os a=some (b,q,n0)):b.length=os.length/\Is a b q n0 (oa b os)=true:=by
 unfold RP at h;dsimp only at h;split at h
 ·simp at h
 ·split at h
  ·simp only[au,aS] at h;obtain ⟨rfl,rfl,rfl⟩:=h
   simp_all
  simp_all
theorem Ye(ab:P.follows .mixedOrders=true)(O:lN P orc){id q n0:Nat}{r:List Nat}{ops:Array Oper}{os:List aG}{σ σ':ar}{M:Nat->Option Nat}{Fz:Nat->Prop}{w:World}{e e':List D}{a:Act}{is:List dZ}{Q:Exit->Act->World->Prop}
  (hc:ops.toList.mapM (bn P ops)=some os) (F:yI ops.toList=true) (R:Rel σ M Fz w) (E:dy σ M Fz w e a.tmps) (h:kY P orc n0 (oa r os) e σ=some (e',σ',is)) (be:r.length=os.length)
  (ad:Is (NN ops.toList) r q n0 (oa r os)=true) (a5:Ph (NN ops.toList) r is=true)
  (hQ:∀G w' M' Fz',G.defers=a.defers->Rel σ' M' Fz' w'->dy σ' M' Fz' w' e' G.tmps->bD σ M Fz w σ' M' Fz' w'->Q .normal G w'):(Code.region id ops true).wq P Q a w:=by
 obtain ⟨h1,h2⟩:=JY hc
 have af:os.length=ops.size:=by omega
 have ak:(oa r os).length=os.length:=by grind [oa]
 simp only [Is,bI] at ad
 obtain ⟨c2,⟨c3,c4⟩,c5,c6,c7,c8,c9⟩:=ad
 have c8:=BW c8
 have c9:=BW c9
 simp only [Wd,bI,iE,yBZ] at c7
 have pm:=c7.2
 rw [ak,af] at pm
 have TQ:∀i,i<ops.size->KG r i<ops.size:=fun i hi=>tc.mp (pm i hi).1.1
 have HP:∀i,i<ops.size->Sq r i<ops.size:=fun i hi=>tc.mp (pm i hi).2.1
 have fg:∀i,i<ops.size->KG r (Sq r i)=i:=fun i hi=>dd (pm i hi).2.2
 have gf:∀i,i<ops.size->Sq r (KG r i)=i:=fun i hi=>dd (pm i hi).1.2
 have K:∀i,i<ops.size->(oa r os)[i]? = os[KG r i]?:=fun i hi=>by
  grind [KG,oa]
 generalize bb:oa r os=u at h ak K c2 c3 c4 c5 c6 c9
 obtain ⟨env,sg,wrs,k1,k2,k3,k4,k5,k6,k7⟩:=QW (n:=n0) u n0 e e' σ σ' is h
 subst k1 k2 k3 k4
 have c1:=a5
 unfold Ph at c1
 have an:∀(i:Nat) x,u[i]? = some x->x.g=none:=fun i x L=>by
  have:=iE.1 c4 x (yP L)
  simpa using this
 have S:∀(i:Nat) o,ops[i]? = some o->o.guard=none:=fun i o N=>by
  have av:=(BS.1 N).1
  have L:u[Sq r i]? = some os[i]:=by grind
  obtain ⟨o',U,v⟩:=h2 i _ (eK (by omega))
  rw [Tm,N] at U
  simp only [au] at U
  subst U
  have W:=an _ _ L
  unfold bn at v
  split at v
  ·rename_i g ao hg _
   simp only [au] at v
   rw [←v] at W
   simp only at W
   subst W
   cases hq:o.guard with
   | none=>rfl
   | some p =>
    obtain ⟨j,bc⟩:=p
    rw [hq] at hg
    simp only [zh] at hg
    split at hg <;> simp at hg
  grind
 let s:Array Oper:=Array.ofFn fun i:Fin ops.size=>wg (Sq r) (ops[KG r i]'(TQ i i.isLt))
 have a6:s.size=ops.size:=by simp [s]
 have ax:∀i,i<ops.size->s[i]? = (ops[KG r i]?).map (wg (Sq r)):=fun i hi=>by
  rw [qo (by omega),qo (TQ i hi)]
  simp [s]
 have X:Perm ops s (KG r) (Sq r):=⟨a6,ax,TQ,HP,fg,gf,S,fun i o e N he hb=>by
  have:=ua F i o e N he hb
  grind⟩
 have T:Tr P orc s u 0 n0 env sg wrs:={
  len:=by omega
  comp:=fun j ao Z=>by
   have bh:=(eY.1 Z).1
   rw [K j (by omega)] at Z
   obtain ⟨o,N,v⟩:=h2 _ ao Z
   rw [Tm] at N
   refine ⟨wg (Sq r) o,by grind,?_⟩
   unfold bn at v ⊢
   have e1:zh ops o.guard=some none:=by rw [S _ o N]; rfl
   have e2:zh s (wg (Sq r) o).guard=some none:=by
    show zh s o.guard=some none
    rw [S _ o N]; rfl
   rw [e1] at v
   rw [e2]
   exact v
  step:=fun i ao hi=>(k6 i ao hi).1
  wrk:=fun i hi=>k7 i (by omega) hi
  le:=by omega
  pair:=fun i j x y aa L hy=>by
   have Z:=(eY.1 hy).1
   have A:=iE.1 c1 j (by grind)
   have z:=iE.1 A i (by grind)
   simp only [gz] at z
   rcases z with z | z
   ·left
    have:=KJ X (Cu z)
    grind
   grind
  lead:=fun i hi=>by omega
  ple:=by omega }
 have H:ot u q:=fun i hi=>by
  have av:i<u.length:=by omega
  have:=iE.1 c3 (u[i]) (by
   rw [yBQ]
   exact ⟨i,by grind⟩)
  rw [eK av]
  generalize u[i]=x at this
  unfold isLt at this
  split at this
  ·grind
  ·grind
  ·grind
  grind
 refine wO ab (nX hc) ?_
 replace hQ:=fun G w' M' Fz' h1 h2 A z=>(⟨hQ G w' M' Fz' h1 h2 A z,by simp⟩:kM Q .normal G w')
 have R1:Rel (sg 0) M Fz { w with drawn:=w.drawn+1 }:=R.heap rfl ⟨rfl,rfl,rfl⟩
 have EH:bD (sg 0) M Fz w (sg 0) M Fz { w with drawn:=w.drawn+1 }:=bD.heap R rfl ⟨rfl,rfl,rfl⟩
 have bd:=Un (Q:=kM Q) O T H (by omega) (fun i j bi aa bk Z=>by
   have A:=iE.1 c2 j (by grind)
   simp only [gz] at A
   rcases A with A | A
   ·grind [Nat.blt_eq]
   ·have z:=iE.1 A i (by grind)
    simp only [gz] at z
    rcases z with z | z
    ·grind [Nat.blt_eq]
    ·have:=KJ X (Cu z)
     grind) an
  (fun i j x y t hi aa L hy hd a7=>by
   have Z:=(eY.1 hy).1
   have A:=iE.1 c5 j (by grind)
   have z:=iE.1 A i (by grind)
   simp only [ZJ,L,hy,Rm,hd,a7,tc.mpr hi,yC5] at z
   grind)
  (fun i j x y t hi aa L hy hd hm=>by
   have Z:=(eY.1 hy).1
   have A:=iE.1 c6 j (by grind)
   have z:=iE.1 A i (by grind)
   have a8:(yr x).contains t=true:=by grind
   simp only [ZJ,L,hy,Rm,hd,tc.mpr hi,a8] at z
   grind)
  (fun m bl hr i hi=>by
   let b:Array Bool:=Array.ofFn fun i:Fin ops.size=>m.getD (Sq r i) true
   have a0:b.size=ops.size:=by simp [b]
   have bt:∀i,i<ops.size->b.getD i true=m.getD (Sq r i) true:=fun i hi=>by
    rw [yBa,qo (by omega)]
    simp [b]
   have a1:∀i,i<ops.size->m.getD i true=b.getD (KG r i) true:=fun i hi=>by grind
   have a9:Region.ready .any ops b=[]:=by
    cases hq:Region.ready .any ops b with
    | nil=>rfl
    | cons j l =>
     have:=Eb X b m a0 (by omega) a1 j (by grind)
     grind
   have a2:=xR a0 (ua F) a9
   have:=a2 (KG r i) (TQ i (by omega))
   unfold gy at this ⊢
   grind)
  R1 (E.mono EH) (fun G w' M' Fz' hd R' E' EV=>hQ G w' M' Fz' hd R' E' (EH.trans EV (cO _)))
 exact perm_wp X ops.size (Array.replicate ops.size false) (Array.replicate ops.size false) a _ (by simp) (by simp) (fun i hi=>by
  rw [yBa,yBa,yCt,yCt,if_pos (by omega),if_pos (TQ i hi)]) (by grind)
theorem Sem.drwG{nn q n0:Nat}{z:List Nat}{al:AL}{σ:ar}{Q:ni->AL->ar->Prop}{os:List aG}{k:Nat}{s:List Nat}{p:Nat}(u:P.follows .mixedOrders=true)(O:lN P orc)(hl:RP os s=some (z,q,n0))
  (h:cf P orc n0 (oa z os) nn al σ λal' σ' is=>Ph s z is=true/\Q .normal al' σ'):Sem P (.Hb os s k p) nn al σ Q:=by
 obtain ⟨al1,σ1,is,h,Z,hQ⟩:=h;obtain ⟨E,F⟩:=YF hl;intro c j M Fz w a K R A hK;obtain ⟨e',W,h2⟩:=h _ A.c_.2;cases c with
 |region id ops X=>
  simp only[bB] at j;split at j
  ·rename_i aa G;split at j
   ·rename_i U;subst U;split at j
    ·rename_i hb;simp only[au,aP.Hb.injEq] at j;obtain ⟨rfl,rfl,_,_⟩:=j;refine Ye u O G hb R A.c_.1 W E F Z λa' w' M' Fz' U R' E' EV=>?_;exact hK .normal al1 σ1 a' w' M' Fz' hQ (Mk.of_eq U) R' (dX.R_ E' h2) EV (Eh O _ _ _ _ _ _ _ W).1
    simp_all
   simp_all
  simp_all
 |seq a b=>grind [bB]
 |cond o a b=>grind [bB]
 |block i b=>simp[bB] at j
 |loop b=>simp[bB] at j
 |scope b=>grind [bB,Option.map_eq_some_iff,JK]
 |rangeFunc g ps x y=>rcases dS j with ⟨_,_,_,_,_,_,_,e⟩ | e <;> cases e
 |_=>grind [bB]
end
end Go.Abs
end
section
namespace Go.Abs
variable[Gl]
inductive CC where
 |int (k:IntKind)
 |bool
 |str
 |sl (i:Nat)
 |fk (gs:List Nat)
 deriving DecidableEq,Inhabited
@[reducible] def CC.den(T:Nat->Type):CC->Type
 |.int _=>Int
 |.bool=>Bool
 |.str=>ByteArray
 |.sl i=>List (T i)
 |.fk _=>Nat
@[reducible] def aak(T:Nat->Type):List CC->Type
 |[]=>Unit
 |c::a=>c.den T×aak T a
def okL(i:Nat):List CC->Bool
 |[]=>true
 |.sl j::l=>Nat.blt j i&&okL i l
 |_::l=>okL i l
theorem yA{i j:Nat}:∀{l:List CC},okL i l=true->CC.sl j∈l->j<i:=by
 intro l;induction l with
 |nil=>intro _ h;simp at h
 |cons c l ih=>
  intro e h;cases c <;> simp only[okL,bI,gu,reduceCtorEq,false_or,CC.sl.injEq] at e h
  case sl=>rcases h with rfl | h;exact tc.mp e.1;exact ih e.2 h
  all_goals exact ih e h
class Ty where
 T:Nat->Type
 fl:Nat->List CC
 prj:∀i,T i->aak T (fl i)
 mkt:∀i,aak T (fl i)->T i
 mp:∀i a,mkt i (prj i a)=a
 pm:∀i x,prj i (mkt i x)=x
 dn:∀i j,CC.sl j∈fl i->j<i
 ps:∀i,0<(fl i).length
section
variable[Y:Ty]
abbrev TT(i:Nat):Type:=Y.T i
abbrev CC.dn(c:CC):Type:=c.den Y.T
abbrev aT(cs:List CC):Type:=aak Y.T cs
abbrev aA(i:Nat):Nat:=(Y.fl i).length
def rR(rec:(j:Nat)->TT j->List C):(c:CC)->c.dn->C
 |.int k,n=>.lit (.int k n)
 |.bool,b=>.lit (.bool b)
 |.str,s=>.lit (.string s)
 |.sl j,l=>.cD false (l.map (rec j))
 |.fk _,g=>.fn (.func g) [] []
def mV(rec:(j:Nat)->TT j->List C):(cs:List CC)->aT cs->List C
 |[],_=>[]
 |c::cs,x=>rR rec c x.1::mV rec cs x.2
def Na:Nat->(i:Nat)->TT i->List C
 |0,_,_=>[]
 |k+1,i,a=>mV (Na k) (Y.fl i) (Y.prj i a)
def enc(i:Nat)(a:TT i):List C:=Na (i+1) i a
theorem Ei{a b:(j:Nat)->TT j->List C}:∀(cs:List CC)(x:aT cs),(∀j,CC.sl j∈cs->a j=b j)->mV a cs x=mV b cs x:=by
 intro cs;induction cs with
 |nil=>intro x _;rfl
 |cons c cs ih=>
  intro x h;simp only[mV];rw[ih x.2 λj i=>h j (nS _ i)];congr 1;cases c with
  |sl j=>grind [rR]
  |_=>rfl
theorem WP:∀(k i:Nat),i<k->Na (Y:=Y) k i=enc i:=by
 intro k;induction k using Nat.strongRecOn with
 |_ k ih=>
  intro i hi;funext a;cases k with
  |zero=>omega
  |succ k=>
   simp only[enc,Na];refine Ei _ _ λj b=>?_;have h:=Y.dn i j b
   grind
theorem tT(i:Nat)(a:TT i):enc i a=mV enc (Y.fl i) (Y.prj i a):=by show mV (Na i) (Y.fl i) (Y.prj i a)=_;exact Ei _ _ λj b=>WP i j (Y.dn i j b)
theorem Vz{r:(j:Nat)->TT j->List C}:∀(cs:List CC)(x:aT cs),(mV r cs x).length=cs.length:=by
 intro cs;induction cs with
 |nil=>intro x;rfl
 |cons c cs ih=>grind [mV]
theorem tj(i:Nat)(a:TT i):(enc i a).length=aA i:=by rw[tT,Vz]
theorem LS{r:(j:Nat)->TT j->List C}{c:CC}(i:∀j,c=.sl j->∀a b,r j a=r j b->a=b){a b:c.dn}(h:rR r c a=rR r c b):a=b:=by
 cases c with
 |int k=>grind [rR]
 |bool=>grind [rR]
 |str=>grind [rR]
 |sl j=>simp only[rR,C.cD.injEq,true_and] at h;exact map_inj (λ{a b}=>i j rfl a b) h
 |fk l=>simpa[rR] using h
theorem XV{r:(j:Nat)->TT j->List C}:∀{cs:List CC},(∀j,CC.sl j∈cs->∀a b,r j a=r j b->a=b)->∀{x y:aT cs},mV r cs x=mV r cs y->x=y:=by
 intro cs;induction cs with
 |nil=>simp_all
 |cons c cs ih=>grind [mV,LS]
theorem I_:∀(i:Nat)(a b:TT i),enc i a=enc i b->a=b:=by
 intro i;induction i using Nat.strongRecOn with
 |_ i ih=>intro a b h;rw[tT,tT] at h;have:=XV (λj l=>ih j (Y.dn i j l)) h;rw[<-Y.mp i a,<-Y.mp i b,this]
inductive CV where
 |d (x:D)
 |b (e:Bool)
 |sl (i:Nat) (l:List (TT i))
def CV.er:CV->D
 |.d x=>x
 |.b e=>B e
 |.sl i l=>.c (.cD false (l.map (enc i)))
def CV.low(m:Nat):CV->Bool
 |.d x=>x.low m
 |_=>true
inductive TC where
 |any
 |d (x:D)
 |b (e:Bool)
 |sl (i:Nat) (l:List (TT i))
 |own (i b v n:Nat)
 |fp (i:Nat) (a:TT i) (off:Nat)
 |op (i b v n:Nat) (k:Int) (a:TT i) (off:Nat)
 |ap (b off len sz:Nat) (k:Int)
 |os (i b v n lo len:Nat)
 |fl (n:Int)
 |cx (x y:Int)
 |Fx (g:FuncId) (xs:List CV)
def TC.er:TC->D
 |.any=>.any
 |.d x=>x
 |.b e=>B e
 |.sl i l=>.c (.cD false (l.map (enc i)))
 |.own i c _ n=>OS (aA i) c n
 |.fp i a off=>.c (.cz (enc i a) off)
 |.op i c _ n k _ off=>.ptr c (k.toNat * aA i+off) (n * aA i)
 |.ap c off _ sz k=>.ptr c (off+k.toNat * 1) sz
 |.os i c _ n j len=>.sl c (0+j * aA i) len (aA i) (n * aA i)
 |.fl n=>.c (.lit (.float .f64 (Fl.fl n)))
 |.cx x y=>.c (.lit (.complex .f64 (Fl.fl x) (Fl.fl y)))
 |.Fx g o=>.fn (.func g) [.agg (o.map CV.er)] []
def RC(x:TC)(d:D):Prop:=x=.any\/d=x.er
inductive TV where
 |c (x:TC)
 |agg (xs:List TC)
 |aT (xs:List (Bool×List TC))
inductive aK {α β:Type} (R:α->β->Prop):List α->List β->Prop where
 |nil:aK R [] []
 |cons {a:α} {b:β} {l:List α} {m:List β} (h:R a b) (r:aK R l m):aK R (a::l) (b::m)
def RE(p:Bool×List TC)(d:D):Prop:=
 match p with
 |(true,xs)=>∃ds,d=.agg ds/\aK RC xs ds
 |(false,xs)=>∃x,xs=[x]/\RC x d
def RT:TV->D->Prop
 |.c x,d=>RC x d
 |.agg xs,d=>∃ds,d=.agg ds/\aK RC xs ds
 |.aT xs,d=>∃ds,d=.aT ds/\aK RE xs ds
inductive RV where
 |v (x:TV)
 |g (c want:Bool) (p:Nat) (x:TV)
def RR:RV->D->Prop
 |.v x,d=>RT x d
 |.g c want _ x,d=>if c=want then RT x d else d=.aT []
inductive TB where
 |cells (w:Nat) (cs:List (Nat×TC))
 |row (i:Nat) (l:List (TT i)) (lv cv:Nat)
 |mp (j:Nat) (st:Bool) (l:List (Int×TT j)) (v:Nat)
def P_(j:Nat)(st:Bool)(a:TT j):D:=if st then .agg ((enc j a).map .c) else .c ((enc j a).headD (.lit undef))
def TB.er:TB->Ob
 |.cells _ o=>.cells (o.map λp=>p.2.er)
 |.row i l _ _=>OB (enc i) l
 |.mp j st l _=>MB (P_ j st) l
def RB(blk:TB)(ob:Ob):Prop:=ob=blk.er
abbrev TH:=List TB
abbrev TA:=List (Nat×RV)
def NH(t:Nat):TA->Option RV
 |[]=>none
 |(s,x)::al=>match Nat.beq s t with | true=>some x | false=>NH t al
def iC(t:Nat):TA->Option (RV×Nat)
 |[]=>none
 |(s,x)::al=>match Nat.beq s t with | true=>some (x,al.length) | false=>iC t al
def rZ:(c:CC)->c.dn->TC
 |.int k,n=>.d (.c (.lit (.int k n)))
 |.bool,b=>.b b
 |.str,s=>.d (.c (.lit (.string s)))
 |.sl j,l=>.sl j l
 |.fk _,g=>.d (.c (.fn (.func g) [] []))
def uw:(cs:List CC)->aT cs->List TC
 |[],_=>[]
 |c::cs,x=>rZ c x.1::uw cs x.2
def exp(i:Nat)(a:TT i):List TC:=uw (Y.fl i) (Y.prj i a)
theorem lu(c:CC)(a:c.dn):(rZ c a).er=.c (rR enc c a):=by cases c <;> rfl
theorem expT_er:∀(cs:List CC)(x:aT cs),(uw cs x).map TC.er=(mV enc cs x).map .c:=by
 intro cs;induction cs with
 |nil=>intro x;rfl
 |cons c cs ih=>grind [uw,mV,lu]
theorem tn(i:Nat)(a:TT i):(exp i a).map TC.er=(enc i a).map .c:=by rw[exp,expT_er,tT]
theorem aK.er:∀(xs:List TC),aK RC xs (xs.map TC.er):=by
 intro xs;induction xs with
 |nil=>exact .nil
 |cons x xs ih=>exact .cons (.inr rfl) ih
theorem aK.eq:∀{xs:List TC}{ds:List D},aK RC xs ds->(∀y∈xs,y≠.any)->ds=xs.map TC.er:=by
 intro xs ds h;induction h with
 |nil=>simp_all
 |cons h r ih=>
  intro i;rcases h with h | h
  ·simp_all
  simp_all
theorem aK.len{α i:Type}{R:α->i->Prop}{l:List α}{m:List i}(h:aK R l m):l.length=m.length:=by
 induction h with
 |nil=>rfl
 |cons _ _ ih=>simp[ih]
theorem aK.get{α j:Type}{R:α->j->Prop}{l:List α}{m:List j}(h:aK R l m):∀(i:Nat) a,l[i]? = some a->∃b,m[i]? = some b/\R a b:=by
 induction h with
 |nil=>simp_all
 |cons h _ ih=>grind
theorem aK.get'{α j:Type}{R:α->j->Prop}{l:List α}{m:List j}(h:aK R l m):∀(i:Nat) b,m[i]? = some b->∃a,l[i]? = some a/\R a b:=by
 induction h with
 |nil=>simp_all
 |cons h _ ih=>grind
theorem aK.UL{α i:Type}{R:α->i->Prop}{l j:List α}{m m':List i}(h:aK R l m)(o:aK R j m'):aK R (l++j) (m++m'):=by
 induction h with
 |nil=>exact o
 |cons h _ ih=>exact .cons h ih
theorem aK.take{α i:Type}{R:α->i->Prop}{l:List α}{m:List i}(h:aK R l m):∀n:Nat,aK R (l.take n) (m.take n):=by
 induction h with
 |nil=>intro n;simp;exact .nil
 |cons h _ ih=>
  intro n;cases n with
  |zero=>exact .nil
  |succ n=>exact .cons h (ih n)
theorem aK.drop{α i:Type}{R:α->i->Prop}{l:List α}{m:List i}(h:aK R l m):∀n:Nat,aK R (l.drop n) (m.drop n):=by
 induction h with
 |nil=>intro n;simp;exact .nil
 |cons h r ih=>
  intro n;cases n with
  |zero=>exact .cons h r
  |succ n=>grind
def iy{i j:Nat}(l:List (TT j)):Option (List (TT i)):=match decEq j i with | .isTrue h=>some (h▸l) | .isFalse _=>none
theorem ZX{i j:Nat}{l:List (TT j)}{m:List (TT i)}(h:iy l=some m):∃e:j=i,m=e▸l:=by
 unfold iy at h;split at h
 ·simp_all
 simp_all
def Ew:(c:CC)->TC->Option c.dn
 |.int k,.d (.c (.lit (.int a n)))=>match decEq a k with | .isTrue _=>some n | .isFalse _=>none
 |.bool,.b e=>some e
 |.bool,.d (.c (.lit (.bool e)))=>some e
 |.str,.d (.c (.lit (.string s)))=>some s
 |.sl _,.sl _ l=>iy l
 |.sl _,.d (.c (.lit (.slice none 0 0)))=>some []
 |.sl _,.d (.c (.cD false []))=>some []
 |.fk _,.d (.c (.fn (.func g) [] []))=>some g
 |_,_=>none
def DZ:(cs:List CC)->List TC->Option (aT cs)
 |[],[]=>some ()
 |c :: cs, x :: xs => match Ew c x, DZ cs xs with
  |some a,some b=>some (a,b)
  |_,_=>none
 |_,_=>none
theorem oD{c:CC}{x:TC}{a:c.dn}(h:Ew c x=some a):x≠.any/\wo x.er=.c (rR enc c a):=by
 unfold Ew at h;split at h
 ·split at h
  ·rename_i e _;subst e;simp only[au] at h;subst h;exact ⟨by simp,rfl⟩
  simp_all
 ·simp only[au] at h;subst h;exact ⟨by simp,rfl⟩
 ·simp only[au] at h;subst h;exact ⟨by simp,rfl⟩
 ·simp only[au] at h;subst h;exact ⟨by simp,rfl⟩
 ·obtain ⟨rfl,rfl⟩:=ZX h;exact ⟨by simp,rfl⟩
 ·simp only[au] at h;subst h;exact ⟨by simp,rfl⟩
 ·simp only[au] at h;subst h;exact ⟨by simp,rfl⟩
 ·simp only[au] at h;subst h;exact ⟨by simp,rfl⟩
 ·simp at h
theorem N_{c:CC}{x:TC}{a:c.dn}(h:Ew c x=some a):x=.d (.c (.lit (.slice none 0 0)))\/x.er=.c (rR enc c a):=by
 unfold Ew at h;split at h
 ·split at h
  ·rename_i e _;subst e;simp only[au] at h;subst h;exact .inr rfl
  simp_all
 ·simp only[au] at h;subst h;exact .inr rfl
 ·simp only[au] at h;subst h;exact .inr rfl
 ·simp only[au] at h;subst h;exact .inr rfl
 ·obtain ⟨rfl,rfl⟩:=ZX h;exact .inr rfl
 ·simp only[au] at h;subst h;exact .inl rfl
 ·simp only[au] at h;subst h;exact .inr rfl
 ·simp only[au] at h;subst h;exact .inr rfl
 ·simp at h
theorem OO:∀{cs:List CC}{xs:List TC}{a:aT cs},DZ cs xs=some a->(∀y∈xs,y≠.any)/\(xs.map TC.er).map wo=(mV enc cs a).map .c:=by
 intro cs;induction cs with
 |nil=>
  intro xs a h;cases xs with
  |nil=>exact ⟨by simp,rfl⟩
  |cons x xs=>grind [DZ]
 |cons c cs ih=>
  intro xs a h;cases xs with
  |nil=>grind [DZ]
  |cons x xs=>grind [DZ,oD,mV]
inductive dr where
 |c (x:CC)
 |st (i:Nat)
 |fp (i:Nat)
 |k (g:Nat)
@[reducible] def dr.dn:dr->Type
 |.c x=>x.dn
 |.st i=>TT i
 |.fp i=>TT i
 |.k _=>Unit
def dr.enc:(c:dr)->c.dn->D
 |.c x,a=>.c (rR Go.Abs.enc x a)
 |.st i,a=>ST (Go.Abs.enc i a)
 |.fp i,a=>.c (.cz (Go.Abs.enc i a) 0)
 |.k x,_=>.c (.fn (.func x) [] [])
def dr.tv:(c:dr)->c.dn->TV
 |.c x,a=>.c (rZ x a)
 |.st i,a=>.agg (exp i a)
 |.fp i,a=>.c (.fp i a 0)
 |.k x,_=>.c (.d (.c (.fn (.func x) [] [])))
theorem dr.DH(c:dr)(a:c.dn):RT (c.tv a) (c.enc a):=by
 cases c with
 |c x=>exact .inr (lu x a).symm
 |st i=>exact ⟨_,rfl,by rw[<-tn];exact aK.er _⟩
 |fp i=>exact .inr rfl
 |k x=>exact .inr rfl
@[reducible] def rS:List dr->Type
 |[]=>Unit
 |c::a=>c.dn×rS a
def sW:(cs:List dr)->rS cs->List D
 |[],_=>[]
 |c::cs,x=>c.enc x.1::sW cs x.2
def tvV:(cs:List dr)->rS cs->List TV
 |[],_=>[]
 |c::cs,x=>c.tv x.1::tvV cs x.2
@[reducible] def lB:List dr->Type
 |[]=>Unit
 |[c]=>c.dn
 |c::d::a=>c.dn×lB (d::a)
def vG(i:Nat):TV->Option (TT i)
 |.c (.fp j a 0)=>match decEq j i with | .isTrue h=>some (h▸a) | .isFalse _=>none
 |_=>none
def PT(g:Nat):TV->Option Unit
 |.c (.d (.c (.fn (.func a) [] [])))=>match Nat.beq a g with | true=>some () | false=>none
 |_=>none
def JV(x:CC):TV->Option x.dn
 |.c y=>Ew x y
 |_=>none
def BR(i:Nat):TV->Option (TT i)
 |.agg a=>match DZ (Y.fl i) a with | some x=>some (Y.mkt i x) | none=>none
 |_=>none
def qp:(c:dr)->TV->Option c.dn
 |.c x,v=>JV x v
 |.st i,v=>BR i v
 |.fp i,v=>vG i v
 |.k g,v=>PT g v
end
end Go.Abs
end
