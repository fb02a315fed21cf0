/- DfwY, DfwZ, DfwOp, DfwEnc, DfwEq, DfwOwn, DfwTq, DfwMp, DfwFl, DfwGh, DfwPa -/
import Derived.Test.YtidhdalhpjapaaaGreatDoorFwB
import Derived.Laws.StructEq
import GoSem.Core.Float
import GoSem.Op.Complex
import GoSem.Conv.FloatToInt
set_option linter.all false
section
namespace Go.Abs
variable[Gl]
section
variable{P:Program}{orc:ig}{U U' U1 U2:aq}{n:Nat}{al al1 al2:AL}{Q:qd->AL->aq->Prop}
theorem Sem.mono{ac:br}{Q':qd->AL->aq->Prop}(h:Sem P ac n al U Q)(i:∀x al' U',Q x al' U'->∃al2 U2,Wk U.length al' U' al2 U2/\Q' x al2 U2):Sem P ac n al U Q':=by
 intro c j M Fz w a K R A L;refine h c j M Fz w a K R A λx al' U' O w' M' Fz' o hd s u z E=>?_;obtain ⟨al2,U2,F,G⟩:=i x al' U' o;obtain ⟨W,X,Z,E2,l2⟩:=F.use s u z E
 grind
theorem Sem.pre{ac:br}(hs:Sub al al1)(h:Sem P ac n al1 U Q):Sem P ac n al U Q:=by intro c i M Fz w a K R A j;exact h c i M Fz w a K R (A.sub hs) j
theorem kS.pre{ac:br}{k:Nat}(hs:Sub al al1)(h:kS P ac k n al1 U Q):kS P ac k n al U Q:=by intro c i M Fz w a K R A j;exact h c i M Fz w a K R (A.sub hs) j
theorem Sem.Cg(i:P.follows .mixedOrders=true)(O:pC P orc){ac:br}{k:Nat}{x:qd}{e e':List D}{wr wr':List Nat}(h:kR P orc k ac e U wr=some (x,e',U',wr'))
  (j:e=xq n al) (o:Env n al1 e') (u:Q x al1 U'):Sem P ac n al U Q:=by
 intro c s M Fz w a K R A z;subst j;refine (Ht i O k).1 c ac U U' M Fz w _ e' a wr wr' x K s R A.eE.1 h λE w' M' Fz' hd F G L=>?_
 grind [fU.Zc,uD]
theorem Sem.skip(i:P.follows .mixedOrders=true)(j:Q .normal al U):Sem P .skip n al U Q:=by intro c o M Fz w a K R A s;have:Sem P .skip n al U Q:=Sem.Cg i (orc:=λ_ _ _ _=>none) (λt g ds U r U' wr h=>by simp at h) (k:=1) (wr:=[]) (wr':=[]) (e:=xq n al) rfl rfl A.eE.2 j;exact this c o M Fz w a K R A s
theorem Sem.ret(i:P.follows .mixedOrders=true)(j:Q .ret al U):Sem P .ret n al U Q:=by intro c o M Fz w a K R A s;have:Sem P .ret n al U Q:=Sem.Cg i (orc:=λ_ _ _ _=>none) (λt g ds U r U' wr h=>by simp at h) (k:=1) (wr:=[]) (wr':=[]) (e:=xq n al) rfl rfl A.eE.2 j;exact this c o M Fz w a K R A s
theorem Sem.exit(i:P.follows .mixedOrders=true){id:Nat}(j:Q (.exit id) al U):Sem P (.exit id) n al U Q:=by intro c o M Fz w a K R A s;have:Sem P (.exit id) n al U Q:=Sem.Cg i (orc:=λ_ _ _ _=>none) (λt g ds U r U' wr h=>by simp at h) (k:=1) (wr:=[]) (wr':=[]) (e:=xq n al) rfl rfl A.eE.2 j;exact this c o M Fz w a K R A s
theorem Sem.seq{a b:br}(h:Sem P a n al U λx al1 U1=>match x with | .normal=>∃al2 U2,Wk U.length al1 U1 al2 U2/\Sem P b n al2 U2 Q | x=>Q x al1 U1):Sem P (.seq a b) n al U Q:=by
 intro c j M Fz w s K R A G;cases c with
 |seq c1 L=>
  simp only[cZ] at j;split at j
  ·rename_i a1 a2 h1 h2;simp only[aw,br.seq.injEq] at j;obtain ⟨rfl,rfl⟩:=j;refine wp_seq (h c1 h1 M Fz w s _ R A λx al1 U1 O w' M' Fz' W hd X Z E' hl=>?_);cases x with
   |normal=>obtain ⟨al2,U2,hw,hs⟩:=W;obtain ⟨M2,R2,A2,E2,l2⟩:=hw.use X Z E' hl;exact hs L h2 M2 Fz' w' O K R2 A2 λx u U3 a3 w3 M3 z E af R3 A3 E3 F=>G x u U3 a3 w3 M3 z E (by simp_all) R3 A3 (E2.trans E3 l2) (mA l2 F)
   |exit i=>grind [oW]
   |ret=>exact G .ret al1 U1 O w' M' Fz' W hd X Z E' hl
  simp_all
 |region id ops ad=>
  simp only[cZ] at j
  grind
 |cond o c1 L=>grind [cZ]
 |block id c1=>simp[cZ] at j
 |loop c1=>simp[cZ] at j
 |scope b=>grind [cZ,Option.map_eq_some_iff,YP]
 |_=>grind [cZ]
theorem Sem.cond{o:aP}{t e:br}{b:Bool}(u:(match o with | .t k=>lk k al | .k d=>some d)=some (.c (.lit (.bool b))))
  (O:b=true->Sem P t n al U Q) (W:b=false->Sem P e n al U Q):Sem P (.cond o t e) n al U Q:=by
 intro c i M Fz w j K R A z;cases c with
 |cond x c1 E=>
  simp only[cZ] at i;split at i
  ·rename_i F a1 a2 X Z h4;simp only[aw,br.cond.injEq] at i;obtain ⟨rfl,rfl,rfl⟩:=i;have G:=mf A.eE.1 X;have s:gM (F.ev (xq n al))=some b:=by
    cases F with
    |t k=>dsimp only at u;simp[aP.ev,A.eE.2.2 k _ u,gM]
    |k d=>simp only[aw] at u;subst u;rfl
   cases b with
   |true=>exact wp_cond_true (mS G s) (O rfl c1 Z M Fz w j K R A z)
   |false=>exact wp_cond_false (mS G s) (W rfl E h4 M Fz w j K R A z)
  simp_all
 |region id ops L=>
  simp only[cZ] at i
  grind
 |seq c1 E=>grind [cZ]
 |block id c1=>simp[cZ] at i
 |loop c1=>simp[cZ] at i
 |scope b=>grind [cZ,Option.map_eq_some_iff,YP]
 |_=>grind [cZ]
theorem Sem.step{a b:br}(al2:AL)(U2:aq)(i:Sem P a n al U λx al1 U1=>x=.normal/\Wk U.length al1 U1 al2 U2)(j:Sem P b n al2 U2 Q):Sem P (.seq a b) n al U Q:=
 Sem.seq (i.mono λx al1 U1 ⟨o,s⟩=>⟨al1,U1,.refl,by grind⟩)
def out(id:Nat):qd->qd
 |.exit i=>if i=id then .normal else .exit i
 |x=>x
def behind(id:Nat)(Q:qd->AL->aq->Prop)(al:AL)(U:aq):qd->Prop
 |.normal=>Q .normal al U
 |.ret=>Q .ret al U
 |.exit i=>(i=id->Q .normal al U)/\(i≠id->Q (.exit i) al U)
theorem Sem.block{id:Nat}{b:br}(O:Sem P b n al U λx al1 U1=>∃al2 U2,Wk U.length al1 U1 al2 U2/\behind id Q al2 U2 x):Sem P (.block id b) n al U Q:=by
 have h:Sem P b n al U λx al1 U1=>∃al2 U2,Wk U.length al1 U1 al2 U2/\Q (out id x) al2 U2:=O.mono λx al1 U1 ⟨al2,U2,E,s⟩=>⟨al1,U1,.refl,al2,U2,E,by
  cases x with
  |normal=>exact s
  |ret=>exact s
  |exit i=>
   by_cases u:i=id
   ·simp only[out,if_pos u];exact s.1 u
   ·simp only[out,if_neg u];exact s.2 u⟩
 intro c z M Fz w F K R A W;cases c with
 |block i c1=>
  simp only[cZ,cu,br.block.injEq] at z;obtain ⟨a1,X,rfl,rfl⟩:=z;refine wp_block (h c1 X M Fz w F _ R A λx al1 U1 Z w' M' Fz' hQ hd R' A' E' hl=>?_);obtain ⟨al2,U2,E,hq⟩:=hQ;obtain ⟨M2,R2,A2,E2,l2⟩:=E.use R' A' E' hl;have:=W _ al2 U2 Z w' M2 Fz' hq hd R2 A2 E2 l2;cases x with
  |normal=>exact this
  |ret=>exact this
  |exit j=>
   by_cases G:j=2 * i
   ·simp only[out,if_pos G] at this;rw[G];exact DE this
   ·simp only[out,if_neg G] at this
    grind [Ai]
 |region id ops L=>
  simp only[cZ] at z
  grind
 |seq c1 c2=>grind [cZ]
 |cond o c1 c2=>grind [cZ]
 |loop c1=>simp[cZ] at z
 |scope b=>grind [cZ,Option.map_eq_some_iff,YP]
 |_=>grind [cZ]
theorem Sem.loop{b:br}(k:Nat)(h:kS P b k n al U Q):Sem P (.loop b) n al U Q:=by
 intro c i M Fz w j K R A u;cases c with
 |loop c1=>simp only[cZ,cu,br.loop.injEq] at i;obtain ⟨E,x,rfl⟩:=i;exact wp_loop_rounds k (h c1 x M Fz w j K R A u)
 |region id ops s=>
  simp only[cZ] at i
  grind
 |seq c1 z=>grind [cZ]
 |cond o c1 z=>grind [cZ]
 |block id c1=>simp[cZ] at i
 |scope b=>grind [cZ,Option.map_eq_some_iff,YP]
 |_=>grind [cZ]
theorem kS.succ{b:br}{k:Nat}(h:Sem P b n al U λx al1 U1=>match x with | .normal=>∃al2 U2,Wk U.length al1 U1 al2 U2/\kS P b k n al2 U2 Q | x=>∃al2 U2,Wk U.length al1 U1 al2 U2/\Q x al2 U2):kS P b (k+1) n al U Q:=by
 intro c hc M Fz w F K R A hK;rw[rounds_succ];refine h c hc M Fz w F _ R A λx al1 U1 a' w' M' Fz' G hd L O W X=>?_;cases x with
 |normal=>obtain ⟨al2,U2,j,hs⟩:=G;obtain ⟨s,u,z,E,o⟩:=j.use L O W X;exact hs c hc s Fz' w' a' K u z λx Z U3 a3 w3 M3 ad af av R3 A3 E3 ak=>hK x Z U3 a3 w3 M3 ad af (by simp_all) R3 A3 (E.trans E3 o) (mA o ak)
 |exit i=>
  obtain ⟨al2,U2,j,hq⟩:=G;obtain ⟨s,u,z,E,o⟩:=j.use L O W X
  grind [oW]
 |ret=>obtain ⟨al2,U2,j,hq⟩:=G;obtain ⟨s,u,z,E,o⟩:=j.use L O W X;exact hK .ret al2 U2 a' w' s Fz' hq hd u z E o
theorem Sem.rounds{b:br}{V:Type}(L:V->AL)(H:V->aq)(p:Nat->V->Prop)(k:Nat)(v:V)(s:p k v)(u:∀v,p 0 v->False)
  (hs:∀k v,p (k+1) v->Sem P b n (L v) (H v) λx al1 U1=>match x with | .normal=>∃i,p k i/\Wk (H v).length al1 U1 (L i) (H i) | x=>∃al2 U2,Wk (H v).length al1 U1 al2 U2/\Q x al2 U2)
  (o:Sub al (L v)) (j:U=H v):Sem P (.loop b) n al U Q:=by
 subst j;refine Sem.loop k (kS.pre o ?_);clear o;induction k generalizing v with
 |zero=>simp_all
 |succ k ih=>
  refine kS.succ ((hs k v s).mono λx al1 U1 z=>⟨al1,U1,.refl,?_⟩)
  grind
def HX(P:Program)(orc:ig)(k:Nat)(os:List aM)(n:Nat)(al:AL)(U:aq)(al':AL)(U':aq)(is:List dG):Prop:=
 ∀e,Env n al e->∃a,kH P orc k os e U=some (a,U',is)/\Env n al' a
theorem UP:∀(os:List aM)(e e':List D)(U U':aq)(is:List dG),kH P orc 0 os e U=some (e',U',is)->sV P orc os e U=some (e',U',is.flatMap (·.wr)):=by
 intro os;induction os with
 |nil=>intro e e' U U' is h;simp only[kH,aw,ba] at h;obtain ⟨rfl,rfl,rfl⟩:=h;rfl
 |cons o os ih=>grind [kH,sV,cQ]
theorem Sem.MK(i:P.follows .mixedOrders=true)(O:pC P orc){os:List aM}{is:List dG}(h:HX P orc 0 os n al U al1 U1 is)(j:Q .normal al1 U1):Sem P (.MK os) n al U Q:=by intro c o M Fz w a K R A s;obtain ⟨e',u,z⟩:=h _ A.eE.2;have E:=UP _ _ _ _ _ _ u;have:Sem P (.MK os) n al U Q:=Sem.Cg i O (k:=1) (wr:=[]) (e:=xq n al) (e':=e') (x:=.normal) (U':=U1) (wr':=is.flatMap (·.wr)++[]) (by grind [kR]) rfl z j;exact this c o M Fz w a K R A s
theorem Sem.FA(j:P.follows .mixedOrders=true)(O:pC P orc){os:List aM}{i:List Nat}{k p:Nat}{is:List dG}(h:HX P orc k os n al U al1 U1 is)(F:(dR i is&&nA i p k os.length&&Nat.ble p k)=true)(o:Q .normal al1 U1) :
  Sem P (.FA os i k p) n al U Q:=by
 intro c s M Fz w a K R A u;obtain ⟨e',G,z⟩:=h _ A.eE.2;have E:jL P orc os i p k (xq n al) U=some (e',U1,is.flatMap (·.wr)):=by
  unfold jL
  simp_all
 have:Sem P (.FA os i k p) n al U Q:=Sem.Cg j O (k:=1) (wr:=[]) (e:=xq n al) (e':=e') (x:=.normal) (U':=U1) (by simp only[kR,E];rfl) rfl z o;exact this c s M Fz w a K R A u
theorem Jj:∀(os:List aM)(n m:Nat)(e:List D)(U:aq)(r a:List D×aq×List dG),kH P orc n os e U=some r->kH P orc m os e U=some a->r=a:=by
 intro os;induction os with
 |nil=>grind [kH]
 |cons o os ih=>grind [kH]
theorem Sem.drwN(j:P.follows .mixedOrders=true)(O:pC P orc){os:List aM}{i:List Nat}{k p:Nat}{is:List dG}(h:HX P orc os.length os n al U al1 U1 is)(Z:(dR i is&&nA i p os.length os.length&&Nat.ble p os.length)=true)(u:Q .normal al1 U1) :
  Sem P (.FA os i k p) n al U Q:=by
 intro c z M Fz w a K R A E;obtain ⟨e',F,G⟩:=h _ A.eE.2;have L:∀m r,jL P orc os i p m (xq n al) U=some r->r=(e',U1,is.flatMap (·.wr)):=by
  intro m r o;unfold jL at o;split at o
  ·rename_i e2 U2 W s;have:=Jj _ _ _ _ _ _ _ s F
   simp_all
  simp_all
 have s:jL P orc os i p os.length (xq n al) U=some (e',U1,is.flatMap (·.wr)):=by
  unfold jL
  simp_all
 have X:kR P orc 1 (.FA os i k p) (xq n al) U []=some (.normal,e',U1,is.flatMap (·.wr)++[]):=by grind [kR]
 have:Sem P (.FA os i k p) n al U Q:=Sem.Cg j O (k:=1) (wr:=[]) (e:=xq n al) (e':=e') (x:=.normal) (U':=U1) X rfl G u;exact this c z M Fz w a K R A E
end
end Go.Abs
end
section
namespace Go.Abs
variable[Gl]
open Go.RowKit
def Pure(P:Program)(g:FuncId)(ds:List D)(r:D):Prop:=bq P g=true/\Ok P g ds [] r []
section
variable{P:Program}{U U':aq}{M M':Nat->Option Nat}{Fz Fz':Nat->Prop}{w w':World}
theorem V.data{d:D}{v:Value}(h:V U M Fz w d v)(j:d.low 0=true)(U':aq)(M':Nat->Option Nat):V U' M' Fz w d v:=by
 induction h with
 |c h=>exact .c h
 |any v=>exact .any v
 |ptr a E h x o=>grind [D.low]
 |sl a n F G E h x o=>grind [D.low]
 |mp c E h o=>grind [D.low]
 |fn s K u L o O z A=>simp only[D.low,bJ] at j;exact .fn s K u L (λi d v a b=>z i d v a b (D.aV j.1 i d a)) (λi d v a b=>A i d v a b (D.aV j.2 i d a))
 |agg s u o ih=>simp only[D.low] at j;exact .agg s u (λi d v a b=>ih i d v a b (D.aV j i d a))
 |aT s u o ih=>simp only[D.low] at j;exact .aT s u (λi d v a b=>ih i d v a b (D.aV j i d a))
def D.ground:D->Bool
 |.c (.lit _)=>true
 |.agg ds=>gX ds
 |.aT ds=>gX ds
 |_=>false
where gX:List D->Bool
 |[]=>true
 |d::ds=>d.ground&&gX ds
theorem D.Aa:∀{ds:List D},D.ground.gX ds=true->∀(i:Nat) d,ds[i]? = some d->d.ground=true:=by
 intro ds;induction ds with
 |nil=>simp_all
 |cons x ds ih=>
  intro h i d j;simp only[D.ground.gX,bJ] at h
  grind
theorem V.lit{d:D}{v:Value}(h:V U M Fz w d v)(o:d.ground=true)(U':aq)(M':Nat->Option Nat)(Fz':Nat->Prop)(w':World):V U' M' Fz' w' d v:=by
 induction h with
 |c h=>
  rename_i x v;cases x with
  |lit u=>cases h;exact .c (.lit _)
  |_=>grind [D.ground]
 |any v=>grind [D.ground]
 |ptr a E h A j=>grind [D.ground]
 |sl a n F G E h A j=>grind [D.ground]
 |mp c E h j=>grind [D.ground]
 |fn s O z R j W K L=>grind [D.ground]
 |agg s z j ih=>simp only[D.ground] at o;exact .agg s z (λi d v a b=>ih i d v a b (D.Aa o i d a))
 |aT s z j ih=>simp only[D.ground] at o;exact .aT s z (λi d v a b=>ih i d v a b (D.Aa o i d a))
theorem Pure.data{g:FuncId}{ds:List D}{r:D}(h:Pure P g ds r)(hd:ds.all (D.low 0)=true)(F:r.low 0=true):Ok P g ds U r U:=by
 intro M Fz w G R hs u;have K:Rel [] (λ_=>none) Fz w:=⟨λb c h=>by simp at h,λb b' c h=>by simp at h,R.fz,R.gl⟩;refine (h.2 _ Fz w G K hs λi d v a b=>(u i d v a b).data (gH.1 hd d (yl a)) _ _).mono λe w' L=>?_;obtain ⟨v,M',Fz',rfl,A,O,j⟩:=L;have W:∀c:Nat,c<w.heap.size->w'.heap[c]? = w.heap[c]?:=λc s=>j.frame c s (λb h=>by simp at h);have E:bQ U M Fz w U M Fz' w':={
  size:=j.size
  frame:=λc s _=>W c s
  oA:=λb c h=>.inl ⟨b,h⟩
  fz:=j.fz
  rS:=λc h=>by
   rcases j.rS c h with h | ⟨b,h⟩ | h
   ·simp_all
   ·simp at h
   omega
  sa:=λc x T fr h=>⟨x,by grind,rfl⟩
  cX:=λb z h=>⟨z,h,cT _,λ_=>rfl⟩
  out:=j.out }
 refine ⟨v,M,Fz',rfl,⟨λb c h=>?_,R.inj,A.fz,A.gl⟩,O.data F _ _,E⟩;obtain ⟨h1,z,o,X,h3,Z⟩:=R.blk b c h;have s:=(R.lt h).2;refine ⟨λhf=>?_,z,o,X,by simp_all,Z.mono E⟩;rcases j.rS c hf with h | ⟨b,h⟩ | h
 ·grind
 ·simp at h
 ·omega
theorem Pure.lend{g:FuncId}{ds j:List D}{r:D}(h:Pure P g j r)(hd:ds.mapM (vP U 0 100)=some j)(u:r.ground=true):Ok P g ds U r U:=by
 intro M Fz w x R hs z;have A:Rel [] (λ_=>none) (DW M Fz 0) w:=⟨λb c h=>by simp at h,λb G c h=>by simp at h,λc h=>by
  rcases h with h | ⟨b,_,h⟩
  ·exact R.fz c h
  ·exact (R.lt h).2,Gl.mono (λc h=>⟨.inl h,rfl⟩) R.gl⟩
 have K:j.length=ds.length:=(Oo hd).1;refine (h.2 _ _ w x A (by omega) λi d v a b=>?_).mono λe w' E=>?_
 ·grind [Oo,Gq]
 ·obtain ⟨v,M',Fz',rfl,L,F,o⟩:=E;have s:Below w.heap.size w w':=⟨o.out.1,o.out.2.1,o.out.2.2,o.size,λk hk=>o.frame k hk (λb h=>by simp at h)⟩;exact ⟨v,M,Fz,rfl,R.below s,F.lit u _ _ _ _,bQ.below R s⟩
end
def Yg:C->C
 |.lit (.slice none 0 0)=>.cU false []
 |.cU _ a=>.cU false a
 |x=>x
def vM:D->D
 |.c x=>.c (Yg x)
 |d=>d
def Bi:D->D
 |.c x=>.c (Yg x)
 |.agg ds=>.agg (ds.map vM)
 |d=>d
theorem GY{Fz:Nat->Prop}{w:World}{x:C}{v:Value}(h:VC Fz w x v):VC Fz w (Yg x) v:=by
 unfold Yg;split
 ·cases h;exact .cU (es:=[]) 0 none 0 (by simp) (λ_=>rfl) (λ_ _=>undef) (by simp) (by simp) (by simp) (by simp)
 ·cases h with
  |cU aA a i l m c j b o p=>exact .cU aA a i (by simp) m c j b o p
 omega
theorem Hp{U:aq}{M:Nat->Option Nat}{Fz:Nat->Prop}{w:World}{d:D}{v:Value}(h:V U M Fz w d v):V U M Fz w (vM d) v:=by
 unfold vM;split
 ·cases h with | c h=>exact .c (GY h)
 omega
theorem DA{U:aq}{M:Nat->Option Nat}{Fz:Nat->Prop}{w:World}{d:D}{v:Value}(h:V U M Fz w d v):V U M Fz w (Bi d) v:=by
 unfold Bi;split
 ·cases h with | c h=>exact .c (GY h)
 ·cases h with
  |agg j l m=>
   refine .agg j (by simp_all) (λi d v a b=>?_)
   grind [Hp]
 omega
theorem Ok.Bi{P:Program}{g:FuncId}{ds:List D}{U U':aq}{r:D}(h:Ok P g (ds.map Bi) U r U'):Ok P g ds U r U':=by
 intro M Fz w j R hs o;refine h M Fz w j R (by simp_all) λi d v a b=>?_
 grind [DA]
abbrev yY:=List (Nat×(List D->Option D))
def YG(g:Nat):yY->Option (List D->Option D)
 |[]=>none
 |(s,f)::l=>match Nat.beq s g with | true=>some f | false=>YG g l
def D.plain:D->Bool
 |.fn ..=>false
 |.agg ds=>ds.all λd=>match d with | .fn ..=>false | _=>true
 |.aT ds=>ds.all λd=>match d with | .fn ..=>false | _=>true
 |_=>true
def Gz(S:yY):uE:=λg ds U=>
 match YG g S with
 |none=>none
 |some f=>
  if ds.all (λd=>d.low 0&&d.plain) then (f (ds.map Bi)).bind λr=>if r.low 0 then some (r,U,[]) else none
  else
   match ds.mapM (vP U 0 100) with
   |some a=>(f (a.map Bi)).bind λr=>if r.ground then some (r,U,[]) else none
   |none=>none
def qk(P:Program)(S:yY):Prop:=∀p∈S,∀ds r,p.2 ds=some r->Pure P p.1 ds r
theorem XO{g:Nat}{f:List D->Option D}:∀{S:yY},YG g S=some f->(g,f)∈S:=by
 intro S;induction S with
 |nil=>grind [YG]
 |cons p S ih=>grind [YG,Nat.eq_of_beq_eq_true]
theorem RJ{m:Nat}{d:D}(h:d.low m=true):(vM d).low m=true:=by unfold vM;grind [D.low]
theorem TU{m:Nat}:∀{ds:List D},D.low.cF m ds=true->D.low.cF m (ds.map vM)=true:=by
 intro ds;induction ds with
 |nil=>simp_all
 |cons d ds ih=>intro h;simp only[D.low.cF,bJ,oK] at h ⊢;grind [RJ]
theorem Xu{m:Nat}{d:D}(h:d.low m=true):(Bi d).low m=true:=by
 unfold Bi
 grind [D.low,TU]
theorem wT{P:Program}{S:yY}(h:qk P S):tf P (Gz S):=by
 intro g ds U r U' wr a;unfold Gz at a;split at a
 ·grind
 ·rename_i f x;have s:=XO x;split at a
  ·rename_i u;rw[cr] at a;obtain ⟨v,j,b⟩:=a;split at b
   ·rename_i l;simp only[aw,ba] at b;obtain ⟨rfl,rfl,rfl⟩:=b;have i:=h _ s _ _ j;refine ⟨i.1,(i.data ?_ l).Bi,cT _,λ_ _ _=>rfl⟩;rw[gH] at u ⊢;intro d hd;rw[jJ] at hd;obtain ⟨y,z,rfl⟩:=hd;have:=u y z;rw[bJ] at this
    grind [Xu]
   simp_all
  ·split at a
   ·rename_i m o;rw[cr] at a;obtain ⟨v,j,b⟩:=a;split at b
    ·rename_i l;simp only[aw,ba] at b;obtain ⟨rfl,rfl,rfl⟩:=b;have i:=h _ s _ _ j;have p:Pure P g m v:=⟨i.1,i.2.Bi⟩;exact ⟨i.1,p.lend o l,cT _,λ_ _ _=>rfl⟩
    simp_all
   simp_all
noncomputable def spec{A R:Type}(args:A->List D)(QQ:R->D)(f:A->Option R):List D->Option D:=λds=>open Classical in if h:∃a,args a=ds then (f (Classical.choose h)).map QQ else none
theorem NS{A R:Type}{args:A->List D}{QQ:R->D}{f:A->Option R}(inj:∀a b,args a=args b->a=b){a:A}{r:R}(h:f a=some r):spec args QQ f (args a)=some (QQ r):=by
 have i:∃b,args b=args a:=⟨a,rfl⟩;unfold spec
 grind
theorem Wd{P:Program}{g:Nat}{A R:Type}{args:A->List D}{QQ:R->D}{f:A->Option R}(H:∀a r,f a=some r->Pure P g (args a) (QQ r)):∀ds r,spec args QQ f ds=some r->Pure P g ds r:=by
 intro ds r h;unfold spec at h;split at h
 ·grind [Option.map_eq_some_iff]
 simp_all
theorem Gf{S:yY}{g:Nat}{F:List D->Option D}{ds a:List D}{U:aq}{r:D}(b:YG g S=some F)(i:(ds.all λd=>d.low 0&&d.plain)=true)(hd:ds.map Bi=a)(h:F a=some r)(j:r.low 0=true) :
  Gz S g ds U=some (r,U,[]):=by
 subst hd;simp only[Gz,b,i,if_true,h,Option.bind_some,j]
theorem HW{S:yY}{g:Nat}{F:List D->Option D}{ds a b:List D}{U:aq}{r:D}(i:YG g S=some F)(j:(ds.all λd=>d.low 0&&d.plain)=false)(l:ds.mapM (vP U 0 100)=some a)(hd:a.map Bi=b)(h:F b=some r)(m:r.ground=true) :
  Gz S g ds U=some (r,U,[]):=by
 subst hd;simp only[Gz,i,j,a_,bn,l,h,Option.bind_some,m,if_true]
def Po:D->D
 |.aT ds=>.aT (ds.map Bi)
 |d=>Bi d
theorem Dw.Po(d:D):Dw d (Po d):=by
 intro U M Fz w v h;unfold Go.Abs.Po;split
 ·cases h with
  |aT j o s=>
   refine .aT j (by simp_all) (λi d v a b=>?_)
   grind [DA]
 grind [DA]
theorem Dw.Mc{d i:D}(h:Go.Abs.Po d=i):Dw d i:=h▸Dw.Po d
theorem qk.nil{P:Program}:qk P []:=λp i=>by grind
theorem qk.cons{P:Program}{g:Nat}{F:List D->Option D}{S:yY}(h:∀ds r,F ds=some r->Pure P g ds r)(j:qk P S):qk P ((g,F)::S):=by
 intro p i;rcases me.1 i with rfl | i
 ·exact h
 ·exact j p i
def nJ(al:AL)(U:aq):Nat×Option (Option Nat)->Option D
 |(t,none)=>lk t al
 |(t, some n)=>
  match lk t al with
  |some (.ptr b off sz)=>(nl U b sz).bind λa=>xI n a off
  |_=>none
def jD:Nat->List D->AL
 |_,[]=>[]
 |i,d::ds=>(i,d)::jD (i+1) ds
theorem Dy:∀(ds:List D)(i t:Nat)(d:D),lk t (jD i ds)=some d->i<=t/\ds[t-i]? = some d:=by
 intro ds;induction ds with
 |nil=>grind [jD,lk]
 |cons x ds ih=>
  intro i t d h;simp only[jD,lk] at h;split at h
  ·simp_all
  grind
theorem uj{P:Program}{g:FuncId}{fn:Func}{s:mR}{fz:Bool}{ds:List D}{r:D}(hg:P.funcs[g]? = some fn)(u:bq P g=true)(y:jI P fn fz=some s)
  (z:ds.length<=s.ntmps)
  (h:Sem P s.body s.ntmps (jD 0 ds) [] λx al U=>(x=.normal∨x=.ret)/\∃a E,s.results.mapM (nJ al U)=some a/\vP U 0 100 (one a)=some E/\Dw E r):Pure P g ds r:=by
 refine ⟨u,?_⟩;unfold jI at y;split at y
 ·rename_i c hb;split at y
  ·rename_i ac rs h1 h2;simp only[aw] at y;subst y;dsimp only at h z;intro M Fz w m R hs F;refine calls_of_wp hg hb ?_;have A0:fU fn.ntmps [] M Fz w (jD 0 ds) (m++Array.replicate (fn.ntmps-m.size) undef):=by
    refine ⟨by simp_all,λt d ht=>?_⟩;obtain ⟨_,h3⟩:=Dy ds 0 t d ht;rw[Nat.sub_zero] at h3;have G:t<m.size:=by grind
    exact ⟨m[t],by grind,F t d _ h3 (tc G)⟩
   refine h c h1 M Fz w { tmps:=m++Array.replicate (fn.ntmps-m.size) undef,defers:=[] } _ R A0 λx al' U' a' w' M' Fz' hQ hd K L EV hl=>?_;obtain ⟨hx,a,E,hm,N,O⟩:=hQ;have S:rs.mapM (JL (xq fn.ntmps al') U')=some a:=by
    have ad:∀(l:List (Nat×Option (Option Nat))) a,l.mapM (nJ al' U')=some a->l.mapM (JL (xq fn.ntmps al') U')=some a:=by
     intro l;induction l with
     |nil=>simp_all
     |cons p l ih=>
      intro a h;rw[Qf] at h ⊢;cases A:nJ al' U' p with
      |none=>simp_all
      |some d=>
       rw[A] at h;have:JL (xq fn.ntmps al') U' p=some d:=by
        obtain ⟨t,o⟩:=p;cases o with
        |none=>exact L.eE.2.2 t d A
        |some k=>
         simp only[nJ] at A;split at A
         ·rename_i b off sz T;simp only[JL,L.eE.2.2 t _ T];exact A
         simp_all
       rw[this];cases hr:l.mapM (nJ al' U') with
       |none=>simp_all
       |some q=>simp_all
    simp_all
   obtain ⟨v,W,X⟩:=lB (P:=P) K L.eE.1 h2 S;obtain ⟨R2,Z⟩:=Rel.forget R K EV (λb hb=>by grind);have post:a'.defers=[]/\∃v,(results fn a'.tmps).run P w'=.ok v w'/\∃v' j i,Ending.returned v=.returned v'/\Rel [] j i w'/\V [] j i w' r v'/\bQ [] M Fz w [] j i w':=
    ⟨hd,v,W,v,_,_,rfl,R2,O _ _ _ _ _ (Gq K N X _ _),Z⟩
   rcases hx with rfl | rfl
   ·exact post
   ·exact post
  simp_all
 simp_all
end Go.Abs
namespace Go.Abs
variable[Gl]
theorem SJ{P:Program}{g:FuncId}{es:List (List C)}{r:D}(s:∀e∈es,e≠[])(u:Pure P g [.c (.cU true es)] r)(K:es=[]->Pure P g [.c (.lit (.slice none 0 0))] r):Pure P g [.c (.cU false es)] r:=by
 refine ⟨u.1,λM Fz w b R hs L=>?_⟩;have z:b[0]? = some (b[0]'(by simp_all)):=tc _;have h:=L 0 _ _ rfl z;generalize S:b[0]'(by simp_all)=x at h z;have only:∀d,V [] M Fz w d x->∀(i:Nat) A v,[d][i]? = some A->b[i]? = some v->V [] M Fz w A v:=by grind
 cases h with
 |c E=>
  generalize F:C.cU false es=y at E;cases E with
  |cU aA a l N G c m j o p=>
   simp only[C.cU.injEq] at F;obtain ⟨rfl,rfl⟩:=F;cases a with
   |some a=>exact u.2 M Fz w b R hs (only _ (.c (.cU aA (some a) l (λ_=>rfl) G c m j o p)))
   |none=>
    have O:es=[]:=by simp_all
    subst O;have:=G rfl;subst this;exact (K rfl).2 M Fz w b R hs (only _ (.c (.lit _)))
  |_=>grind
end Go.Abs
end
section
namespace Go.Abs
variable[Gl]
abbrev I(n:Int):D:=.c (.lit (.int .i64 n))
abbrev B(b:Bool):D:=.c (.lit (.bool b))
def lx(al:AL):aP->Option D
 |.t k=>lk k al
 |.k d=>some d
def yZ(al:AL)(x:Operand):Option D:=
 match bO x with
 |some o=>lx al o
 |none=>none
def Ri(al:AL):List aP->Option (List D)
 |[]=>some []
 |x :: xs => match lx al x, Ri al xs with
  |some d,some ds=>some (d::ds)
  |_,_=>none
def dQ(P:Program)(orc:uE)(n:Nat)(al:AL)(U:aq)(op:lg)(d:D)(U1:aq)(w:List Nat):Prop:=∀e,Env n al e->bg P orc op e U=some (d,U1,w)
def aL{α:Type}(l:List α)(i:Int):Option α:=if 0<=i/\i<l.length then l[i.toNat]? else none
section
variable{P:Program}{orc:uE}{n:Nat}{al:AL}{U U1:aq}{w:List Nat}{d d1 d2:D}{e:List D}
theorem dY(a:Env n al e){x:aP}(h:lx al x=some d):x.ev e=d:=by
 cases x with
 |t k=>simp only[lx] at h;simp[aP.ev,a.2 k d h]
 |k b=>simp only[lx,aw] at h;subst h;rfl
theorem Gj(b:Env n al e):∀{a:List aP}{ds:List D},Ri al a=some ds->a.map (aP.ev e)=ds:=by
 intro a;induction a with
 |nil=>grind [Ri]
 |cons x a ih=>grind [Ri,dY]
theorem DK{x:aP}(h:lx al x=some d):dQ P orc n al U (.DR x) d U []:=λe a=>by grind [bg,dY]
theorem BK{c x y:aP}{b:Bool}(a:lx al c=some (B b))(i:b=true)(h:lx al x=some d):dQ P orc n al U (.pick c x y) d U []:=λe j=>by grind [bg,gM,dY]
theorem Df{c x y:aP}{b:Bool}(a:lx al c=some (B b))(i:b=false)(h:lx al y=some d):dQ P orc n al U (.pick c x y) d U []:=λe j=>by grind [bg,gM,dY]
def mG(P:Program)(o:BinOp)(t:TypeId)(x y:Operand)(a b:Value):Option Value:=gu P (do eqGuard o t x y a b;binOp o t a b)
theorem we{α b:Type}{s:Go.Sem α}{f:α->Go.Sem b}:gu P (s >>= f)=(gu P s).bind λa=>gu P (f a):=by
 induction s with
 |pure a=>rfl
 |program k ih=>exact ih P
 |_=>rfl
theorem iL{o:BinOp}{t ty j:TypeId}{x y:Operand}{a b v:Value}(A:yZ al x=some d1)(E:yZ al y=some d2)(F:d1.cD = some a)(G:d2.cD = some b)
  (h:mG P o t x y a b=some v) (hd:de v=d):dQ P orc n al U (.gen (.binOp o t x y j) ty) d U []:=λe K=>by
 subst hd;have L:∀{x:Operand}{d:D},yZ al x=some d->((bO x).map (aP.ev e))=some d:=by grind [yZ,dY]
 have N:((bO x).map (aP.ev e)).bind D.cD = some a:=by grind
 have O:((bO y).map (aP.ev e)).bind D.cD = some b:=by grind
 have:mL P (.binOp o t x y j) ty e=some (de v):=by
  unfold mL;have i:(Op.binOp o t x y j).operands.toList.all (λx=>(((bO x).map (aP.ev e)).bind D.cD).isSome)=true:=by grind [Go.Op.operands]
  rw[if_pos i];have s:gu P (execOp (λx=>((((bO x).map (aP.ev e)).bind D.cD).getD undef)) { dst:=none,op:=.binOp o t x y j,type:=ty,pos:="",after:=#[],guard:=none })=some (.value v):=by
   have p:∀l m:Value,l=a->m=b->gu P (do let r <-(do eqGuard o t x y l m;binOp o t l m);Go.Sem.pure (Next.value r))=some (.value v):=by intro l m u z;subst u z;rw[we];unfold mG at h;rw[h];rfl
   exact p _ _ (by simp_all) (by simp_all)
  rw[s]
 grind [bg]
theorem Zg{o:UnOp}{t ty:TypeId}{x:Operand}{a v:Value}(s:yZ al x=some d1)(u:d1.cD = some a)
  (h:gu P (Op.unary o a)=some v) (hd:de v=d):dQ P orc n al U (.gen (.unOp o t x) ty) d U []:=λe y=>by
 subst hd;have z:((bO x).map (aP.ev e))=some d1:=by grind [yZ,dY]
 have l:((bO x).map (aP.ev e)).bind D.cD = some a:=by grind
 have:mL P (.unOp o t x) ty e=some (de v):=by
  unfold mL;have b:(Op.unOp o t x).operands.toList.all (λx=>(((bO x).map (aP.ev e)).bind D.cD).isSome)=true:=by simp[Op.operands,l]
  rw[if_pos b];have m:gu P (execOp (λx=>((((bO x).map (aP.ev e)).bind D.cD).getD undef)) { dst:=none,op:=.unOp o t x,type:=ty,pos:="",after:=#[],guard:=none })=some (.value v):=by
   have i:∀j:Value,j=a->gu P (do let r <-Op.unary o j;Go.Sem.pure (Next.value r))=some (.value v):=by intro j p;subst p;rw[we,h];rfl
   exact i _ (by simp_all)
  rw[m]
 grind [bg]
theorem Bl{t b ty:TypeId}{x:Operand}{a v:Value}(s:yZ al x=some d1)(u:d1.cD = some a)
  (h:gu P (convert t b a)=some v) (hd:de v=d):dQ P orc n al U (.gen (.convert t b x) ty) d U []:=λe y=>by
 subst hd;have z:((bO x).map (aP.ev e))=some d1:=by grind [yZ,dY]
 have m:((bO x).map (aP.ev e)).bind D.cD = some a:=by grind
 have:mL P (.convert t b x) ty e=some (de v):=by
  unfold mL;have i:(Op.convert t b x).operands.toList.all (λx=>(((bO x).map (aP.ev e)).bind D.cD).isSome)=true:=by simp[Op.operands,m]
  rw[if_pos i];have o:gu P (execOp (λx=>((((bO x).map (aP.ev e)).bind D.cD).getD undef)) { dst:=none,op:=.convert t b x,type:=ty,pos:="",after:=#[],guard:=none })=some (.value v):=by
   have j:∀l:Value,l=a->gu P (do let r <-convert t b l;Go.Sem.pure (Next.value r))=some (.value v):=by intro l p;subst p;rw[we,h];rfl
   exact j _ (by simp_all)
  rw[o]
 grind [bg]
theorem op_box{x:aP}{cs:List D}(h:lx al x=some d)(a:d.cells? = some cs)(b:D.ptr U.length 0 cs.length=d1)(hs:U++[.cells cs]=U1):dQ P orc n al U (.box x) d1 U1 []:=λe i=>by grind [bg,dY]
theorem SX{z:List D}(a:D.ptr U.length 0 z.length=d1)(hs:U++[.cells z]=U1):dQ P orc n al U (.alloc z) d1 U1 []:=λe b=>by grind [bg]
def As(al:AL):List D->List (Nat×Nat×aP)->Option (List D)
 |a,[]=>some a
 |a, (o, n, x) :: rest=>
  match (lx al x).bind D.cells? with
  |some b=>if b.length≠n∨o+n > a.length then none else As al (put a o b) rest
  |none=>none
theorem IG(j:Env n al e):∀{b:List (Nat×Nat×aP)}{cs a:List D},As al cs b=some a->pz e cs b=some a:=by
 intro b;induction b with
 |nil=>intro cs a h;exact h
 |cons p b ih=>
  intro cs a h;obtain ⟨o,m,x⟩:=p;simp only[As] at h;split at h
  ·rename_i s i;rw[cr] at i;obtain ⟨d,l,r⟩:=i;simp only[pz,dY j l,r,Option.bind_eq_bind,Option.bind_some]
   simp_all
  simp_all
theorem RA{z cs:List D}{a:List (Nat×Nat×aP)}(h:As al z a=some cs):dQ P orc n al U (.build z a) (.agg cs) U []:=λe b=>by grind [bg,IG]
theorem FD{z cs:List D}{aA len:Nat}{a:List (Nat×Nat×aP)}(h:As al (si len z) a=some cs)(b:D.sl U.length 0 len aA cs.length=d1)(hs:U++[.cells cs]=U1):dQ P orc n al U (.iV aA len z a) d1 U1 []:=λe i=>by grind [bg,IG]
theorem Gy{m:Option Nat}{a:aP}{b off sz:Nat}{cs:List D}(h:lx al a=some (.ptr b off sz))(i:nl U b sz=some cs)(j:xI m cs off=some d):dQ P orc n al U (.load m a) d U []:=λe l=>by grind [bg,dY]
theorem IC{m:Option Nat}{a:aP}{off:Nat}{cs:List C}(h:lx al a=some (.c (.cA cs off)))(b:xI m (cs.map .c) off=some d):dQ P orc n al U (.load m a) d U []:=λe i=>by grind [bg,dY]
theorem JQ{m:Nat}{a x:aP}{b off sz:Nat}{cs i:List D}(h:lx al a=some (.ptr b off sz))(j:nl U b sz=some cs)(l:lx al x=some d)(o:d.cells? = some i)(p:i.length=m/\off+m<=sz)(hs:U.set b (.cells (put cs off i))=U1) :
  dQ P orc n al U (.store m a x) (.aT []) U1 [b]:=λe r=>by
 grind [bg,dY]
theorem Iz{x:aP}{b off sz:Nat}(h:lx al x=some (.ptr b off sz)):dQ P orc n al U (.lD x) (.ptr b off sz) U []:=λe a=>by grind [bg,dY]
theorem eG{k:Nat}{neg:Bool}{x:aP}{b:Bool}(h:lx al x=some d)(a:isNil k d=some b):dQ P orc n al U (.iy k neg x) (B (if neg then !b else b)) U []:=λe i=>by grind [bg,dY]
theorem SE{o:Nat}{x:aP}{b off sz:Nat}(h:lx al x=some (.ptr b off sz)):dQ P orc n al U (.HE o x) (.ptr b (off+o) sz) U []:=λe a=>by grind [bg,dY]
theorem VX{o:Nat}{x:aP}{cs:List C}{off:Nat}(h:lx al x=some (.c (.cA cs off))):dQ P orc n al U (.HE o x) (.c (.cA cs (off+o))) U []:=λe a=>by grind [bg,dY]
theorem nj{α:Type}{l:List α}{i:Int}{a:α}(h:aL l i=some a):0<=i/\i<l.length/\l[i.toNat]? = some a:=by grind [aL]
theorem op_idx{α:Type}{aA:Nat}{x i:aP}{nn:Bool}{l:List α}{f:α->List C}{k:Int}{a:α}(h:lx al x=some (.c (.cU nn (l.map f))))(j:lx al i=some (I k))(m:aL l k=some a)(o:(f a).length=aA) :
  dQ P orc n al U (.idx aA none x i) (.c (.cA (f a) 0)) U []:=λe b=>by
 obtain ⟨s,u,p⟩:=nj m;have r:Af k (l.map f).length=some k.toNat:=by unfold Af;simp_all
 simp only[bg,dY b h,dY b j,sc,Option.bind_eq_bind,Option.bind_some,r,jX,p,Option.map_some,o,if_true]
theorem op_len{α:Type}{x:aP}{nn:Bool}{l:List α}{f:α->List C}(h:lx al x=some (.c (.cU nn (l.map f)))):dQ P orc n al U (.len x) (I l.length) U []:=λe a=>by grind [bg,Fc,dY]
theorem WB{x:aP}(h:lx al x=some (.c (.lit (.slice none 0 0)))):dQ P orc n al U (.len x) (I 0) U []:=λe a=>by grind [bg,Fc,dY]
theorem CW{x:aP}{i:Nat}{ds:List D}(h:lx al x=some (.aT ds))(hd:ds[i]? = some d):dQ P orc n al U (.extract x i) d U []:=λe a=>by grind [bg,dY]
theorem VY{m:Option Nat}{off:Nat}{x:aP}{cs:List D}(h:lx al x=some (.agg cs))(a:xI m cs off=some d):dQ P orc n al U (.part off m x) d U []:=λe b=>by grind [bg,dY]
theorem Ot{g:FuncId}{f:aP}{args:List aP}{ds:List D}(a:lx al f=some (.c (.fn (.func g) [] [])))(b:Ri al args=some ds)(h:orc g ds U=some (d,U1,w)):dQ P orc n al U (.call f args) d U1 w:=λe i=>by grind [bg,dY,Gj]
def Eb(o:aM)(c:Nat)(blk:Option Nat)(w:List Nat)(lo hi:Nat):dG:={ cat:=c,blk:=blk,wr:=w,dst:=o.dst,Zl:=wU o,lo:=lo,hi:=hi }
def Gd(al:AL)(g:Option (Nat×Bool))(b:Bool):Prop:=∀n e,Env n al e->jh e g=some b
theorem uB:Gd al none true:=λ_ _ _=>rfl
theorem Bj{t:Nat}{a b:Bool}(h:lk t al=some (B b))(i:b=a):Gd al (some (t,a)) true:=λn e j=>by simp[jh,j.2 t _ h,i]
theorem Bk{t:Nat}{a b:Bool}(h:lk t al=some (B b))(i:b=!a):Gd al (some (t,a)) false:=λn e j=>by simp[jh,j.2 t _ h,i]
theorem OK{t:Nat}{a:Bool}(h:lk t al=some (.aT [])):Gd al (some (t,a)) false:=λn e b=>by simp[jh,b.2 t _ h]
def wH(al:AL):lg->Option Nat
 |.load _ x=>match lx al x with | some (.ptr b _ _)=>some b | _=>none
 |_=>none
def Ec(al:AL):lg->Bool
 |.load _ x=>(lx al x).isSome
 |_=>true
theorem blk_ok(b:Env n al e){o:aM}(h:Ec al o.op=true)(lo a:Nat):(cQ o e lo a w).blk=wH al o.op:=by
 obtain ⟨t,op,g⟩:=o;cases op with
 |load m x=>grind [Ec,Option.isSome_iff_exists,cQ,TE,wH,dY]
 |_=>rfl
theorem H_(i:Env n al e){o:aM}{b:Bool}(m:∀n e,Env n al e->jh e o.g=some b)(h:Ec al o.op=true)(lo a:Nat):cQ o e lo a w=Eb o (if b then cat o.op else 0) (wH al o.op) w lo a:=by
 have j:=blk_ok (w:=w) i h lo a;have l:(cQ o e lo a w).cat=if b then cat o.op else 0:=by grind [cQ]
 unfold Eb;rw[<-j,<-l];rfl
theorem Nx(a:Env n al e){t:Nat}(j:t<n)(d:D):Env n ((t,d)::al) (e.set t d):=by
 refine ⟨by simp[a.1],λs l h=>?_⟩;simp only[lk] at h;split at h
 ·rename_i i;have:=cY i;simp only[aw] at h;subst this h;rw[List.getElem?_set_self (by rw[a.1];exact j)]
 ·rename_i i;have b:t≠s:=λm=>by simp_all
  rw[xAj b];exact a.2 s l h
variable{k:Nat}{os:List aM}{al':AL}{U':aq}{is:List dG}{t:Nat}{ao:lg}{g:Option (Nat×Bool)}
theorem HX.nil{i:ig}:HX P i k [] n al U al U []:=λe j=>⟨e,rfl,j⟩
theorem HX.op{j:ig}(h:dQ P (j (some t)) n al U ao d U1 w)(s:Gd al g true)(hs:(Nat.blt t n&&Ec al ao&&(k == 0 || jZ U U1 w))=true)(r:HX P j (k-1) os n ((t,d)::al) U1 al' U' is) :
  HX P j k (⟨some t,ao,g⟩::os) n al U al' U' (Eb ⟨some t,ao,g⟩ (cat ao) (wH al ao) w U.length U1.length::is):=λe i=>by
 simp only[bJ] at hs;obtain ⟨⟨x,z⟩,A⟩:=hs;obtain ⟨E,F,G⟩:=r _ (Nx i (yh.mp x) d);refine ⟨E,?_,G⟩;have u:=H_ (w:=w) i (o:=⟨some t,ao,g⟩) s z U.length U1.length;simp only[if_true,a_,bn] at u;simp only[kH,eB,s n e i,h e i,Option.map_some,mj,A,if_true,F,u]
theorem HX.eff{j:ig}(h:dQ P (j none) n al U ao d U1 w)(s:Gd al g true)(hs:(Ec al ao&&(k == 0 || jZ U U1 w))=true)(r:HX P j (k-1) os n al U1 al' U' is) :
  HX P j k (⟨none,ao,g⟩::os) n al U al' U' (Eb ⟨none,ao,g⟩ (cat ao) (wH al ao) w U.length U1.length::is):=λe i=>by
 simp only[bJ] at hs;obtain ⟨x,z⟩:=hs;obtain ⟨A,E,F⟩:=r _ i;refine ⟨A,?_,F⟩;have u:=H_ (w:=w) i (o:=⟨none,ao,g⟩) s x U.length U1.length;simp only[if_true,a_,bn] at u;simp only[kH,eB,s n e i,h e i,Option.map_some,mj,z,if_true,E,u]
theorem HX.no{j:ig}(s:Gd al g false)(hs:(Nat.blt t n&&Ec al ao)=true)(r:HX P j (k-1) os n ((t,.aT [])::al) U al' U' is) :
  HX P j k (⟨some t,ao,g⟩::os) n al U al' U' (Eb ⟨some t,ao,g⟩ 0 (wH al ao) [] U.length U.length::is):=λe i=>by
 simp only[bJ] at hs;obtain ⟨x,z⟩:=hs;obtain ⟨A,E,F⟩:=r _ (Nx i (yh.mp x) (.aT []));refine ⟨A,?_,F⟩;have u:=H_ (w:=[]) i (o:=⟨some t,ao,g⟩) s z U.length U.length;simp only[if_true,a_,bn] at u;simp only[kH,eB,s n e i,mj,jZ,List.all_nil,Bool.or_true,if_true,E,u]
end
end Go.Abs
end
section
namespace Go.Abs
variable[Gl]
abbrev ST(cs:List C):D:=.agg (cs.map .c)
theorem map_inj{α:Type}{f:α->List C}(i:∀{a b:α},f a=f b->a=b){l m:List α}(h:l.map f=m.map f):l=m:=by
 induction l generalizing m with
 |nil=>simp_all
 |cons a l ih => cases m with
  |nil=>simp at h
  |cons b m=>grind
theorem IA:∀{l m:List C},l.map D.c=m.map D.c->l=m:=by
 intro l;induction l with
 |nil=>simp_all
 |cons a l ih => intro m h;cases m with
  |nil=>simp at h
  |cons b m=>grind
theorem ST_inj{α:Type}{f:α->List C}(i:∀{a b:α},f a=f b->a=b){a b:α}(h:ST (f a)=ST (f b)):a=b:=by grind [IA]
theorem sZ{al1:AL}:Sub al1 []:=True.intro
section
variable{P:Program}{orc:uE}{n:Nat}{al:AL}{U U1:aq}{w:List Nat}{d d1 d2:D}{e:List D}
theorem Yq{α:Type}{len:Nat}{x i:aP}{cs:List D}{l:List α}{f:α->D}{k:Int}{a:α}(h:lx al x=some (.agg cs))(j:lx al i=some (I k))(m:aL l k=some a)(o:cs=l.map f)(s:l.length=len) :
  dQ P orc n al U (.AD 1 len none x i) (f a) U []:=λe b=>by
 obtain ⟨u,v,p⟩:=nj m;have r:Af k len=some k.toNat:=by unfold Af;simp_all
 subst o;simp[bg,dY b h,dY b j,sc,r,xI,p]
end
end Go.Abs
end
section
namespace Go.Abs
variable[Gl]
section
variable{P:Program}
theorem zbR{t:TypeId}{d:TypeDesc}(h:P.underlying t=some d):gu P (underlying t)=some d:=by show gu P (match P.underlying t with | some d=>Go.Sem.pure d | none=>_)=_;rw[h];rfl
theorem Iu{d:Nat}{h i:Array Value}{f:Field}{l:List Field}{a b:Value}{r q:Bool}(s:(f.name != "_")=true)(m:gu P (part f.type h f.offset)=some a)(o:gu P (part f.type i f.offset)=some b)
  (p:gu P (Op.equalIn d f.type a b)=some r) (u:gu P (Op.eqFields d h i l)=some q):gu P (Op.eqFields d h i (f::l))=some (r&&q):=by
 unfold Op.eqFields;have j:f.name≠"_":=by simp_all
 rw[if_pos j,we,m,aE,we,o,aE,we,p,aE];cases r
 ·rfl
 simp_all
theorem eq_int{d:Nat}{t:TypeId}{k i:IntKind}{a b:Int}(h:P.underlying t=some (.int i)):gu P (Op.equalIn (d+1) t (.int k a) (.int k b))=some (a == b):=by simp only[Op.equalIn];rw[we,zbR h,aE];simp only[if_true];rfl
theorem Gg{d:Nat}{t:TypeId}{a b:Bool}(h:P.underlying t=some .bool):gu P (Op.equalIn (d+1) t (.bool a) (.bool b))=some (a == b):=by simp only[Op.equalIn];rw[we,zbR h,aE];rfl
theorem eq_agg{d:Nat}{t:TypeId}{i j:Array Value}{r:Bool}(m:P.underlying t=some (.struct (P.fieldsOf t)))(p:P.stoodInHeld t=false)(h:gu P (Op.eqFields d i j (P.fieldsOf t).toList)=some r) :
  gu P (Op.equalIn (d+1) t (.agg i) (.agg j))=some r:=by
 simp only[Op.equalIn];rw[we,zbR m,aE];dsimp only;rw[we];show (gu P (Go.Sem.pure P)).bind _=_;simp only[gu,Option.bind_some,p,a_,bn];rw[we,<-Array.forIn_toList];generalize (P.fieldsOf t).toList=o at h;clear m;induction o generalizing r with
 |nil=>exact h
 |cons f o ih=>
  simp only[List.forIn_cons,Op.eqFields] at h ⊢;rw[we];split at h
  ·rename_i l;rw[if_pos l];rw[we] at h ⊢;cases s:gu P (part f.type i f.offset) with
   |none=>simp_all
   |some a=>
    rw[s] at h;simp only[Option.bind_some] at h ⊢;rw[we] at h ⊢;cases u:gu P (part f.type j f.offset) with
    |none=>simp_all
    |some b=>
     rw[u] at h;simp only[Option.bind_some] at h ⊢;rw[we] at h ⊢;cases v:gu P (Op.equalIn d f.type a b) with
     |none=>simp_all
     |some q=>
      rw[v] at h;simp only[Option.bind_some] at h ⊢;cases q
      ·simp only[Bool.not_false,if_true] at h ⊢;exact h
      ·simp only[zM,a_,bn] at h ⊢;exact ih h
  ·rename_i l;rw[if_neg l];exact ih h
theorem Wl{t:TypeId}{x y:Operand}{a b:Array Value}{r:Bool}(i:P.eqGuardType P.depth t=false)(h:gu P (Op.equalIn 10000 t (.agg a) (.agg b))=some r):mG P .eql t x y (.agg a) (.agg b)=some (.bool r):=by
 unfold mG;rw[we];have j:gu P (eqGuard .eql t x y (.agg a) (.agg b))=some ():=by simp only[eqGuard,zM,a_,bn];show gu P (if (!P.eqGuardType P.depth t)=true then Go.Sem.pure () else _)=_;rw[i];rfl
 rw[j,aE];show gu P (do Go.Sem.pure (Value.bool (<-Op.equal t (.agg a) (.agg b))))=_;rw[we];unfold Op.equal Op.maxDepth;rw[h];rfl
theorem VR{t:TypeId}{x y:Operand}{a b:Array Value}{r:Bool}(i:P.eqGuardType P.depth t=false)(h:gu P (Op.equalIn 10000 t (.agg a) (.agg b))=some r):mG P .neq t x y (.agg a) (.agg b)=some (.bool (!r)):=by
 unfold mG;rw[we];have j:gu P (eqGuard .neq t x y (.agg a) (.agg b))=some ():=by simp only[eqGuard,zM,a_,bn];show gu P (if (!P.eqGuardType P.depth t)=true then Go.Sem.pure () else _)=_;rw[i];rfl
 rw[j,aE];show gu P (do Go.Sem.pure (Value.bool (!(<-Op.equal t (.agg a) (.agg b)))))=_;rw[we];unfold Op.equal Op.maxDepth;rw[h];rfl
end
end Go.Abs
namespace Go.Abs
variable[Gl]
section
variable{P:Program}{orc:uE}{n:Nat}{al:AL}{U:aq}{d:D}{e:List D}
def Ey(P:Program)(op:Op)(ty:TypeId)(al:AL):Option D:=
 if op.operands.toList.all (λx=>((yZ al x).bind D.cD).isSome) then
  match gu P (execOp (λx=>(((yZ al x).bind D.cD).getD undef)) { dst:=none,op:=op,type:=ty,pos:="",after:=#[],guard:=none }) with
  |some (.value v)=>some (de v)
  |_=>none
 else none
theorem Ya{op:Op}{ty:TypeId}(i:∀cs b,op≠.select cs b)(h:Ey P op ty al=some d)(m:Env n al e):mL P op ty e=some d:=by
 unfold Ey at h;split at h
 ·rename_i a;rw[gH] at a;have l:∀x∈op.operands.toList,((bO x).map (aP.ev e)).bind D.cD = (yZ al x).bind D.cD:=by
   grind [Option.isSome_iff_exists,Option.bind_eq_some_iff,yZ,dY]
  have j:∀x:Operand,(x∈op.operands.toList)->((((bO x).map (aP.ev e)).bind D.cD).getD undef)=(((yZ al x).bind D.cD).getD undef):=λx o=>by simp_all
  unfold mL;rw[if_pos (by simp_all)]
  grind [Go.execOp_congr]
 simp_all
theorem fL{c:Call}{ty:TypeId}(h:Ey P (.call c) ty al=some d):dQ P orc n al U (.gen (.call c) ty) d U []:=λe a=>by simp[bg,Ya (λi b=>by simp) h a]
end
end Go.Abs
namespace Go.Abs
variable[Gl]
section
variable{P:Program}{orc:uE}{n:Nat}{al:AL}{U:aq}{d:D}{e:List D}
theorem Ug{t:TypeId}{x y:Operand}{a b:Bool}(h:P.underlying t=some .bool):mG P .eql t x y (.bool a) (.bool b)=some (.bool (a == b)):=by unfold mG;rw[we];show (some ()).bind _=_;rw[aE];show gu P (do Go.Sem.pure (Value.bool (<-Op.equal t (.bool a) (.bool b))))=_;rw[we];unfold Op.equal Op.maxDepth;rw[Gg (d:=9999) h];rfl
theorem UK{t:TypeId}{x y:Operand}{a b:Bool}(h:P.underlying t=some .bool):mG P .neq t x y (.bool a) (.bool b)=some (.bool (!(a == b))):=by unfold mG;rw[we];show (some ()).bind _=_;rw[aE];show gu P (do Go.Sem.pure (Value.bool (!(<-Op.equal t (.bool a) (.bool b)))))=_;rw[we];unfold Op.equal Op.maxDepth;rw[Gg (d:=9999) h];rfl
def P_(k:IntKind)(a b:Int):Option Int:=if b=0 then none else some (k.wrap (a.tdiv b))
def rem?(a b:Int):Option Int:=if b=0 then none else some (a.tmod b)
def shr?(k:IntKind)(a b:Int):Option Int:=if b<0 then none else some (a.fdiv (2 ^ min b.toNat k.bits))
theorem WH{t:TypeId}{x y:Operand}{i j:IntKind}{a b v:Int}(h:shr? i a b=some v):mG P .shr t x y (.int i a) (.int j b)=some (.int i v):=by
 unfold shr? at h;split at h
 ·simp at h
 ·rename_i l;simp only[aw] at h;subst h;unfold mG;rw[we];show (some ()).bind _=_;rw[aE];simp only[binOp,Op.shift,if_neg l];rfl
def shl?(k:IntKind)(a b:Int):Option Int:=if b<0 then none else some (k.wrap (a * 2 ^ min b.toNat k.bits))
theorem Wg{t:TypeId}{x y:Operand}{i j:IntKind}{a b v:Int}(h:shl? i a b=some v):mG P .shl t x y (.int i a) (.int j b)=some (.int i v):=by
 unfold shl? at h;split at h
 ·simp at h
 ·rename_i l;simp only[aw] at h;subst h;unfold mG;rw[we];show (some ()).bind _=_;rw[aE];simp only[binOp,Op.shift,if_neg l];rfl
theorem XJ{t:TypeId}{x y:Operand}{k:IntKind}{a b v:Int}(h:P_ k a b=some v):mG P .quo t x y (.int k a) (.int k b)=some (.int k v):=by
 unfold P_ at h;split at h
 ·simp at h
 ·rename_i i;simp only[aw] at h;subst h;unfold mG;rw[we];show (some ()).bind _=_;rw[aE];simp only[binOp,ne_eq,not_true_eq_false,bn,Op.intDiv,if_neg i];rfl
theorem Yf{t:TypeId}{x y:Operand}{k:IntKind}{a b v:Int}(h:rem? a b=some v):mG P .rem t x y (.int k a) (.int k b)=some (.int k v):=by
 unfold rem? at h;split at h
 ·simp at h
 ·rename_i i;simp only[aw] at h;subst h;unfold mG;rw[we];show (some ()).bind _=_;rw[aE];simp only[binOp,ne_eq,not_true_eq_false,bn,Op.intDiv,if_neg i];rfl
theorem YT{α:Type}{x i:aP}{b off sz len aA:Nat}{k:Int}{l:List α}{a:α}(h:lx al x=some (.ptr b off sz))(m:lx al i=some (I k))(j:aL l k=some a)(o:l.length=len)(hd:D.ptr b (off+k.toNat * aA) sz=d) :
  dQ P orc n al U (.idx aA (some len) x i) d U []:=λe p=>by
 subst hd;obtain ⟨r,s,u⟩:=nj j;have v:Af k len=some k.toNat:=by unfold Af;simp_all
 grind [bg,sc,dY]
end
end Go.Abs
end
section
namespace Go.Abs
variable[Gl]
abbrev OS(aA b n:Nat):D:=.sl b 0 n aA (n * aA)
abbrev OB{α:Type}(f:α->List C)(l:List α):Ob:=.cells ((l.flatMap f).map .c)
section
variable{α:Type}{f:α->List C}{aA:Nat}
theorem jr(b:∀a,(f a).length=aA):∀(l:List α),(l.flatMap f).length=l.length * aA:=by
 intro l;induction l with
 |nil=>simp
 |cons a l ih=>grind
theorem YS(b:∀a,(f a).length=aA):∀(l:List α)(i:Nat)(a:α),l[i]? = some a->((l.flatMap f).drop (i * aA)).take aA=f a:=by
 intro l;induction l with
 |nil=>simp_all
 |cons x l ih=>
  intro i a h;cases i with
  |zero=>simp_all
  |succ i=>
   simp only[List.getElem?_cons_succ] at h;simp only[YA];have:(i+1) * aA=(f x).length+i * aA:=by grind
   rw[this,xAe,<-ih i a h,yBf (by omega),xAd]
   simp_all
theorem Jm(h:∀a,(f a).length=aA)(l:List α)(lo n:Nat):((l.flatMap f).drop (lo * aA)).take (n * aA)=((l.drop lo).take n).flatMap f:=by
 induction l generalizing lo n with
 |nil=>simp
 |cons x l ih=>
  cases lo with
  |succ lo=>
   simp only[YA,List.drop_succ_cons];have:(lo+1) * aA=(f x).length+lo * aA:=by grind
   rw[this,xAe,<-ih lo n,yBf (by omega),xAd]
   simp_all
  |zero=>
   cases n with
   |zero=>simp
   |succ n=>
    simp only[yBX,yBU,YA,List.take_succ_cons];have b:(n+1) * aA=(f x).length+n * aA:=by grind
    rw[b,List.take_append];have:=ih 0 n
    grind
theorem gO{U:aq}{b:Nat}{l:List α}(i:∀a,(f a).length=aA)(h:U[b]? = some (OB f l)):nl U b (l.length * aA)=some ((l.flatMap f).map .c):=by grind [nl,jr]
theorem KW(b:∀a,(f a).length=aA):∀(l:List α),chunks aA l.length (l.flatMap f)=l.map f:=by
 intro l;induction l with
 |nil=>rfl
 |cons a l ih=>
  simp only[List.length_cons,chunks,YA,oK]
  simp_all
theorem QB{U:aq}{n k:Nat}:∀(l:List C),(l.map D.c).mapM (fj U n (k+1))=some l:=by
 intro l;induction l with
 |nil=>rfl
 |cons x l ih=>rw[oK,Qf,ih];rfl
theorem C_{U:aq}{b k n:Nat}{l:List α}(i:∀a,(f a).length=aA)(j:0<aA)(h:U[b]? = some (OB f l))(m:l.length=n):fj U 0 (k+2) (OS aA b n)=some (.cU (Nat.blt 0 n) (l.map f)):=by
 subst m;have:fj U 0 (k+2) (OS aA b l.length)=(if 0<=b/\0<aA/\0+l.length * aA<=l.length * aA then
    match nl U b (l.length * aA) with
    |some o=>(((o.drop 0).take (l.length * aA)).mapM (fj U 0 (k+1))).map λr=>C.cU (Nat.blt 0 l.length) (chunks aA l.length r)
    |none=>none
   else none):=rfl
 rw[this,if_pos ⟨OL _,j,by omega⟩,gO i h]
 grind [List.take_of_length_le,jr,QB,KW]
theorem XN{U:aq}{b n:Nat}{l:List α}(i:∀a,(f a).length=aA)(j:0<aA)(h:U[b]? = some (OB f l))(m:l.length=n):vP U 0 100 (OS aA b n)=some (.c (.cU (Nat.blt 0 n) (l.map f))):=by
 show (fj U 0 100 (OS aA b n)).map D.c=_
 grind [C_]
theorem ZS{a:Type}{g:D->Option a}{d:D}{ds:List D}{r:a}{rs:List a}(h:g d=some r)(b:ds.mapM g=some rs):(d::ds).mapM g=some (r::rs):=by simp_all
theorem Yi{U:aq}{ds rs:List D}(h:ds.mapM (mM U 0 100)=some rs):vP U 0 100 (.aT ds)=some (.aT rs):=by
 show (ds.mapM (mM U 0 100)).map D.aT=_
 simp_all
theorem YB{U:aq}{ds:List D}{rs:List C}(h:ds.mapM (fj U 0 100)=some rs):mM U 0 100 (.agg ds)=some (.agg (rs.map .c)):=by
 show (ds.mapM (fj U 0 100)).map (λl=>D.agg (l.map .c))=_
 simp_all
def Src(U:aq)(f:α->List C)(aA:Nat)(d:D)(m:List α):Prop:=Fc U d=some m.length/\Sl U aA m.length d=some ((m.flatMap f).map .c)
def Sw(U:aq)(f:α->List C)(aA:Nat)(d:D)(m:List α):Prop:=Fc U d=some m.length/\∀n,n<=m.length->Sl U aA n d=some (((m.take n).flatMap f).map .c)
theorem UE{U:aq}{nn:Bool}{m:List α}(b:∀a,(f a).length=aA):Sw U f aA (.c (.cU nn (m.map f))) m:=by
 refine ⟨by simp[Fc],λn h=>?_⟩;show (if n<=(m.map f).length/\(m.map f).all (λe=>e.length=aA) then some (((m.map f).take n).flatten.map D.c) else none)=_;rw[if_pos ⟨by simp_all,by simp[b]⟩,<-List.map_take]
 grind
theorem Rw{U:aq}:Sw U f aA (.c (.lit (.slice none 0 0))) []:=⟨rfl,λn a=>by
 obtain rfl:n=0:=by simp_all
 rfl⟩
theorem SZ{U:aq}{b n:Nat}{l:List α}(i:∀a,(f a).length=aA)(h:U[b]? = some (OB f l))(j:l.length=n):Sw U f aA (OS aA b n) l:=by subst j;refine ⟨by grind [Fc,gO],λk hk=>?_⟩;show ((nl U b (l.length * aA)).bind λm=>if aA=aA/\k<=l.length/\0+l.length * aA<=l.length * aA then some ((m.drop 0).take (k * aA)) else none)=_;have:=Jm i l 0 k;simp only[yBX,yBU] at this;rw[gO i h,aE,if_pos ⟨rfl,hk,by omega⟩,yBU,<-List.map_take,this]
theorem Pj(b:∀a,(f a).length=aA)(l:List α)(n:Nat):(l.flatMap f).take (n * aA)=(l.take n).flatMap f:=by
 have:=Jm b l 0 n
 simp_all
theorem Pk(b:∀a,(f a).length=aA):∀(l:List α)(n:Nat),(l.flatMap f).drop (n * aA)=(l.drop n).flatMap f:=by
 intro l;induction l with
 |nil=>simp_all
 |cons x l ih=>
  intro n;cases n with
  |zero=>simp
  |succ n=>
   have:(n+1) * aA=(f x).length+n * aA:=by grind
   rw[YA,List.drop_succ_cons,<-ih n,this,xAe,yBf (by omega),xAd]
   simp_all
def By(l m:List α)(lo len:Nat):List α:=l.take lo++m.take len++l.drop (lo+(m.take len).length)
theorem Nz{l m:List α}{lo len:Nat}(h:lo+len<=l.length):(By l m lo len).length=l.length:=by grind [By]
theorem Bo{U:aq}{nn:Bool}{m:List α}(b:∀a,(f a).length=aA):Src U f aA (.c (.cU nn (m.map f))) m:=by
 refine ⟨by simp[Fc],?_⟩;show (if m.length<=(m.map f).length/\(m.map f).all (λe=>e.length=aA) then some (((m.map f).take m.length).flatten.map D.c) else none)=_
 grind
theorem Wa{U:aq}:Src U f aA (.c (.lit (.slice none 0 0))) []:=⟨rfl,rfl⟩
theorem Nt{U:aq}{b n:Nat}{l:List α}(i:∀a,(f a).length=aA)(h:U[b]? = some (OB f l))(j:l.length=n):Src U f aA (OS aA b n) l:=by subst j;refine ⟨by grind [Fc,gO],?_⟩;show ((nl U b (l.length * aA)).bind λm=>if aA=aA/\l.length<=l.length/\0+l.length * aA<=l.length * aA then some ((m.drop 0).take (l.length * aA)) else none)=_;rw[gO i h,aE,if_pos ⟨rfl,cT _,by omega⟩,yBU,yBy (by simp[jr i])]
end
section
variable{P:Program}{orc:uE}{n:Nat}{al:AL}{U U1:aq}{d d1 d2:D}{α:Type}{f:α->List C}{aA:Nat}{ac:br}{Q:qd->AL->aq->Prop}
theorem Sem.own(t aA:Nat)(hk:lk t al=some (.c (.lit (.slice none 0 0))))(hd:D.sl U.length 0 0 aA 0=d)(hs:U++[.cells []]=U1)(h:Sem P ac n ((t,d)::al) U1 Q):Sem P ac n al U Q:=by
 subst hd hs;intro c z M Fz w a K R A E;have j:=bQ.ph R;have F:=R.ph;have i:∀{d v},V U M Fz w d v->V (U++[.cells []]) M Fz w d v:=λh=>h.mono j;have G:fU n (U++[.cells []]) M Fz w ((t,.sl U.length 0 0 aA 0)::al) a.tmps:=by
  refine ⟨A.1,λs d hs=>?_⟩;simp only[lk] at hs;split at hs
  ·rename_i L;have:=cY L;simp only[aw] at hs;subst this hs;obtain ⟨v,o,u⟩:=A.2 t _ hk;refine ⟨v,o,?_⟩;rw[u.cC];exact .sl none 0 0 (by simp) (.cells []) (by simp) (by omega) (λ_=>.inl ⟨rfl,rfl,rfl,rfl,rfl,rfl⟩)
  ·obtain ⟨v,o,u⟩:=A.2 s d hs
   simp_all
 exact h c z M Fz w a K F G λx al' U' O w' M' Fz' W hd X Z E' hl=>E x al' U' O w' M' Fz' W hd X Z (j.trans E' (by simp)) (by grind)
theorem MT{x:aP}{b k:Nat}{l:List α}(i:∀a,(f a).length=aA)(h:lx al x=some (OS aA b k))(j:U[b]? = some (OB f l))(m:l.length=k):dQ P orc n al U (.len x) (I k) U []:=λe o=>by grind [bg,Fc,dY,gO]
def bU{α:Type}(l m:List α):Option (List α):=if l.length+m.length<=1000000 then some (l++m) else none
theorem su{l m r:List α}(h:bU l m=some r):l.length+m.length<=1000000/\r=l++m:=by
 unfold bU at h
 simp_all
theorem uA{i:Nat}{s x:aP}{b k:Nat}{l m r:List α}(G:∀a,(f a).length=aA)(h:lx al s=some (OS aA b k))(K:U[b]? = some (OB f l))(hk:l.length=k)(L:lx al x=some d)(z:Src U f aA d m)(N:bU l m=some r)
  (v:Nat.ble i 1000=true) (hd:OS aA b r.length=d1) (hs:U.set b (OB f r)=U1):dQ P orc n al U (.append aA i s x) d1 U1 [b]:=by
 obtain ⟨o,rfl⟩:=su N;subst hd hs hk;have p:i<=1000:=DM v;have j:DL (l.length+m.length) i=true:=by have:(l.length+m.length) * i<=1000000 * 1000:=Nat.mul_le_mul o p;simp only[DL,bJ,bb];omega
 have y:∀e,Env n al e->bg P orc (.append aA i s x) e U=(if m.length=0 then some (OS aA b l.length,U,[b]) else some (.sl b 0 (l.length+m.length) aA (l.length * aA+m.length * aA),U.set b (.cells ((l.flatMap f).map .c++(m.flatMap f).map .c)),[b])):=by
  intro e u;have:bg P orc (.append aA i s x) e U=(Fc U d).bind λk=>(Sl U aA k d).bind λnew=>(nl U b (l.length * aA)).bind λA=>if aA=aA/\0=0/\l.length * aA=l.length * aA/\DL (l.length+k) i then
     if k=0 then some (.sl b 0 l.length aA (l.length * aA),U,[b])
     else some (.sl b 0 (l.length+k) aA (l.length * aA+k * aA),U.set b (.cells (A++new)),[b])
    else if aA=aA/\0=0/\(l.length+k) * aA<=l.length * aA/\DL (l.length+k) i then
     if k=0 then some (.sl b 0 l.length aA (l.length * aA),U,[b])
     else some (.sl b 0 (l.length+k) aA (l.length * aA),U.set b (.cells (put A (l.length * aA) new)),[b])
    else none:=by
   simp only[bg,dY u h,dY u L];rfl
  rw[this,z.1,aE,z.2,aE,gO G K,aE,if_pos ⟨rfl,rfl,rfl,j⟩]
 intro e u;by_cases E:m.length=0
 ·rw[y e u,if_pos E];have:m=[]:=VD E;subst this;have F:U.set b (OB f (l++[]))=U:=by
   rw[Zr];apply Rg
   grind
  simp_all
 grind
theorem Yh{x y:aP}{b lo len:Nat}{l m:List α}(i:∀a,(f a).length=aA)(h:lx al x=some (.sl b (0+lo * aA) len aA (l.length * aA)))(r:U[b]? = some (OB f l))(j:lo+len<=l.length)(s:lx al y=some d)(o:Sw U f aA d m)(hs:U.set b (OB f (By l m lo len))=U1) :
  dQ P orc n al U (.copy aA x y) (I ((m.take len).length:Int)) U1 [b]:=λe p=>by
 subst hs;have u:min m.length len=(m.take len).length:=by grind
 have v:m.take (min m.length len)=m.take len:=by simp_all
 have z:0+lo * aA+len * aA<=l.length * aA:=by
  have:=Sd aA j
  grind
 have A:put ((l.flatMap f).map D.c) (0+lo * aA) (((m.take len).flatMap f).map D.c)=((By l m lo len).flatMap f).map D.c:=by simp only[put,By,<-List.map_take,<-List.map_drop,A_,jr i,yBJ,Wv,N_,Pj i];rw[<-TD,Pk i]
 simp only[bg,dY p h,dY p s,gO i r,o.1,Option.bind_eq_bind,Option.bind_some,Option.map_some,o.2 _ (Nat.min_le_left m.length len)]
 grind
theorem Mu{x i:aP}{b m:Nat}{k:Int}{l:List α}{a:α}(p:∀a,(f a).length=aA)(h:lx al x=some (OS aA b m))(r:U[b]? = some (OB f l))(j:l.length=m)(s:lx al i=some (I k))(o:aL l k=some a) :
  dQ P orc n al U (.idx aA none x i) (.ptr b (k.toNat * aA) (m * aA)) U []:=λe u=>by
 subst j;obtain ⟨v,y,z⟩:=nj o;have A:Af k l.length=some k.toNat:=by unfold Af;simp_all
 grind [bg,sc,dY,gO]
theorem TW{l:List α}{k:Int}{a:α}(b:aL l k=some a):l[k.toNat]? = some a:=(nj b).2.2
theorem Em(j:∀a,(f a).length=aA){l:List α}{i o:Nat}{a:α}{m:Option Nat}(p:l[i]? = some a)(h:xI m ((f a).map .c) o=some d):xI m ((l.flatMap f).map .c) (i * aA+o)=some d:=by
 have r:=YS j l i a p;have b:(i+1) * aA<=(l.flatMap f).length:=by grind
 rw[TD,Nat.one_mul] at b;cases m with
 |none=>
  simp only[xI,jX,cu] at h ⊢
  grind
 |some m=>
  simp only[xI] at h ⊢;split at h
  ·rename_i s;simp only[A_,j] at s;rw[if_pos (by grind)]
   grind [List.map_drop,List.map_take,List.drop_take,List.drop_drop]
  simp_all
theorem Rl{m:Option Nat}{x:aP}{b p q o i:Nat}{l:List α}{a:α}(j:∀a,(f a).length=aA)(h:lx al x=some (.ptr b p (q * aA)))(r:p=i * aA+o)(s:U[b]? = some (OB f l))(u:l.length=q)(v:l[i]? = some a)
  (y:xI m ((f a).map .c) o=some d):dQ P orc n al U (.load m x) d U []:=by
 subst u r;exact Gy h (gO j s) (Em j v y)
theorem Ry(m:∀a,(f a).length=aA){b:List C}:∀(l:List α)(i o:Nat)(a j:α),l[i]? = some a->o+b.length<=aA->f j=(f a).take o++b++(f a).drop (o+b.length) ->
  (l.flatMap f).take (i * aA+o)++b++(l.flatMap f).drop (i * aA+o+b.length)=(l.set i j).flatMap f:=by
 intro l;induction l with
 |nil=>simp_all
 |cons x l ih=>
  intro i o a j h p r;cases i with
  |zero=>grind
  |succ i=>
   simp only[List.getElem?_cons_succ] at h;have v:=m x;have s:(i+1) * aA+o=(f x).length+(i * aA+o):=by grind
   simp only[YA,List.set_cons_succ];rw[<-ih i o a j h p r,s,List.take_append,yBy (by omega)];have u:(f x).length+(i * aA+o)+b.length=(f x).length+(i * aA+o+b.length):=by omega
   rw[u,xAe,yBf (by omega),xAd,Nat.add_sub_cancel_left,Nat.add_sub_cancel_left];simp
theorem QC{m:Nat}{x y:aP}{b p q o i:Nat}{l:List α}{a r:α}{j:List C}(z:∀a,(f a).length=aA)(h:lx al x=some (.ptr b p (q * aA)))(F:p=i * aA+o)(G:U[b]? = some (OB f l))(K:l.length=q)(A:l[i]? = some a)
  (L:lx al y=some d) (N:d.cells? = some (j.map .c)) (O:j.length=m) (R:Nat.ble (o+m) aA=true) (S:f r=(f a).take o++j++(f a).drop (o+j.length)) {E:List α} (s:l.set i r=E) (hs:U.set b (OB f E)=U1) :
  dQ P orc n al U (.store m x y) (.aT []) U1 [b]:=by
 subst K F s hs O;have u:o+j.length<=aA:=DM R;have T:=(jy.1 A).1;have v:(i+1) * aA<=l.length * aA:=Sd _ T;rw[TD,Nat.one_mul] at v;refine JQ h (gO z G) L N ⟨by simp,by omega⟩ ?_;congr 2;rw[<-Ry z l i o a r A u S];simp[put]
theorem jc{len:Nat}{z cs:List D}{b:List (Nat×Nat×aP)}{l:List α}(h:As al (si len z) b=some cs)(i:cs=(l.flatMap f).map .c)(j:l.length=len)(m:∀a,(f a).length=aA)(o:OS U.length aA len=OS U.length aA len)(hd:OS aA U.length len=d1)(hs:U++[OB f l]=U1) :
  dQ P orc n al U (.iV aA len z b) d1 U1 []:=by
 grind [FD,jr]
theorem PV{z:α}:∀(k:Nat),si k ((f z).map .c)=((List.replicate k z).flatMap f).map .c:=by
 intro k;induction k with
 |zero=>rfl
 |succ k ih=>grind [si]
def PJ{α:Type}(z:α)(l c:Int):Option (List α):=if 0<=l/\l<=c/\c<=1000000 then some (List.replicate l.toNat z) else none
def SG{α:Type}(c:Int):Option (List α):=if 0<=c/\c<=1000000 then some [] else none
theorem op_mk0{a:Nat}{o:List D}{x y:aP}{c:Int}{l:List α}(p:lx al x=some (I 0))(r:lx al y=some (I c))(i:SG c=some l)(j:Nat.ble a 1000=true)
  (hd:OS aA U.length l.length=d1) (hs:U++[OB f l]=U1):dQ P orc n al U (.mk aA a o x y) d1 U1 []:=λe m=>by
 subst hd hs;unfold SG at i;split at i
 ·rename_i u;simp only[aw] at i;subst i;have h:a<=1000:=DM j;have b:DL c.toNat a=true:=by
   have s:c.toNat<=1000000:=by omega
   have:c.toNat * a<=1000000 * 1000:=Nat.mul_le_mul s h;simp only[DL,bJ,bb];omega
  simp only[bg,dY m p,dY m r,sc,Option.bind_eq_bind,Option.bind_some];rw[if_pos ⟨by omega,by omega,b⟩];simp[OS,OB,si]
 simp_all
theorem op_mk{a:Nat}{m:List D}{x y:aP}{k c:Int}{z:α}{l:List α}(r:lx al x=some (I k))(s:lx al y=some (I c))(u:m=(f z).map .c)(i:PJ z k c=some l)(j:Nat.ble a 1000=true)
  (hd:OS aA U.length l.length=d1) (hs:U++[OB f l]=U1):dQ P orc n al U (.mk aA a m x y) d1 U1 []:=λe o=>by
 subst hd hs u;unfold PJ at i;split at i
 ·rename_i p;simp only[aw] at i;subst i;have h:a<=1000:=DM j;have b:DL c.toNat a=true:=by
   have v:c.toNat<=1000000:=by omega
   have:c.toNat * a<=1000000 * 1000:=Nat.mul_le_mul v h;simp only[DL,bJ,bb];omega
  simp only[bg,dY o r,dY o s,sc,Option.bind_eq_bind,Option.bind_some];rw[if_pos ⟨p.1,p.2.1,b⟩,PV];simp[OS]
 simp_all
def slice?{α:Type}(l:List α)(lo a:Int):Option (List α):=if 0<=lo/\lo<=a/\a<=l.length then some ((l.take a.toNat).drop lo.toNat) else none
theorem op_slc{x:aP}{lo p:Option aP}{nn:Bool}{l r:List α}{i j:Int}(z:∀a,(f a).length=aA)(h:lx al x=some (.c (.cU nn (l.map f))))(b:(match lo with | none=>some (I 0) | some o=>lx al o)=some (I i))
  (m:(match p with | none=>some (I l.length) | some o=>lx al o)=some (I j)) (s:slice? l i j=some r):dQ P orc n al U (.Rh aA x lo p) (.c (.cU nn (r.map f))) U []:=λe u=>by
 unfold slice? at s;split at s
 ·rename_i A;simp only[aw] at s;subst s;have v:m_ e (l.map f).length (l.map f).length p=some j.toNat:=by
   cases p with
   |none=>simp only[aw,I,D.c.injEq,C.lit.injEq,Value.int.injEq,true_and] at m;grind [m_]
   |some o=>
    simp only at m;simp only[m_,dY u m,sc,Option.bind_some,Od]
    grind
  have y:m_ e 0 j.toNat lo=some i.toNat:=by
   cases lo with
   |none=>simp only[aw,I,D.c.injEq,C.lit.injEq,Value.int.injEq,true_and] at b;grind [m_]
   |some o=>
    simp only at b;simp only[m_,dY u b,sc,Option.bind_some,Od]
    grind
  simp only[bg,dY u h,v,y,Option.bind_eq_bind,Option.bind_some]
  simp_all
 simp_all
end
end Go.Abs
namespace Go.Abs
variable[Gl]
end Go.Abs
namespace Go.Abs
variable[Gl]
theorem Sp{m:Nat}:∀(l:List C),D.low.cF m (l.map D.c)=true:=by
 intro l;induction l with
 |nil=>rfl
 |cons x l ih=>grind [D.low.cF,D.low]
end Go.Abs
end
section
namespace Go.Abs
variable[Gl]
def dq(P:Program)(orc:ig)(k:Nat)(os:List aM)(n:Nat)(al:AL)(U:aq)(Q:AL->aq->List dG->Prop):Prop:=
 ∃al' U' is,HX P orc k os n al U al' U' is/\Q al' U' is
section
variable{P:Program}{orc:ig}{n k:Nat}{al al1:AL}{U U1:aq}{w:List Nat}{d:D}{os:List aM}{t:Nat}{ao:lg}{g:Option (Nat×Bool)}{Q:AL->aq->List dG->Prop}
theorem dq.nil(h:Q al U []):dq P orc k [] n al U Q:=⟨al,U,[],HX.nil,h⟩
theorem dq.op(h:dQ P (orc (some t)) n al U ao d U1 w)(i:Gd al g true)(hs:(Nat.blt t n&&Ec al ao&&(k == 0 || jZ U U1 w))=true)
  (r:dq P orc (k-1) os n ((t,d)::al) U1 λal' U' is=>Q al' U' (Eb ⟨some t,ao,g⟩ (cat ao) (wH al ao) w U.length U1.length::is)):dq P orc k (⟨some t,ao,g⟩::os) n al U Q:=by
 obtain ⟨al',U',is,j,o⟩:=r;exact ⟨al',U',_,HX.op h i hs j,o⟩
theorem dq.eff(h:dQ P (orc none) n al U ao d U1 w)(i:Gd al g true)(hs:(Ec al ao&&(k == 0 || jZ U U1 w))=true)
  (r:dq P orc (k-1) os n al U1 λal' U' is=>Q al' U' (Eb ⟨none,ao,g⟩ (cat ao) (wH al ao) w U.length U1.length::is)):dq P orc k (⟨none,ao,g⟩::os) n al U Q:=by
 obtain ⟨al',U',is,j,o⟩:=r;exact ⟨al',U',_,HX.eff h i hs j,o⟩
theorem dq.no(i:Gd al g false)(hs:(Nat.blt t n&&Ec al ao)=true)
  (r:dq P orc (k-1) os n ((t,.aT [])::al) U λal' U' is=>Q al' U' (Eb ⟨some t,ao,g⟩ 0 (wH al ao) [] U.length U.length::is)):dq P orc k (⟨some t,ao,g⟩::os) n al U Q:=by
 obtain ⟨al',U',is,j,o⟩:=r;exact ⟨al',U',_,HX.no i hs j,o⟩
theorem Sem.pS{Q:qd->AL->aq->Prop}(i:P.follows .mixedOrders=true)(O:pC P orc)(h:dq P orc 0 os n al U λal' U' _=>Q .normal al' U'):Sem P (.MK os) n al U Q:=by
 obtain ⟨al',U',is,j,o⟩:=h
 grind [Sem.MK]
theorem Sem.drwQ{Q:qd->AL->aq->Prop}{i:List Nat}{p:Nat}(j:P.follows .mixedOrders=true)(O:pC P orc)
  (h:dq P orc k os n al U λal' U' is=>(dR i is&&nA i p k os.length&&Nat.ble p k)=true/\Q .normal al' U'):Sem P (.FA os i k p) n al U Q:=by
 obtain ⟨al',U',is,o,s,u⟩:=h
 grind [Sem.FA]
theorem Sem.drwNQ{Q:qd->AL->aq->Prop}{i:List Nat}{p:Nat}(j:P.follows .mixedOrders=true)(O:pC P orc)
  (h:dq P orc os.length os n al U λal' U' is=>(dR i is&&nA i p os.length os.length&&Nat.ble p os.length)=true/\Q .normal al' U'):Sem P (.FA os i k p) n al U Q:=by
 obtain ⟨al',U',is,o,s,u⟩:=h
 grind [Sem.drwN]
def shut(n:Nat)(al:AL)(o:aM):Option Nat:=
 match o.g,o.dst with
 |some (t, want), some s=>
  match lk t al with
  |some (.c (.lit (.bool b)))=>if (b != want)&&(Nat.blt s n&&Ec al o.op) then some s else none
  |some (.aT [])=>if Nat.blt s n&&Ec al o.op then some s else none
  |_=>none
 |_,_=>none
end
end Go.Abs
end
section
namespace Go.Abs
variable[Gl]
def bT{α:Type}:List (Int×α)->Int->Option α
 |[],_=>none
 |(b,a)::l,k=>if b=k then some a else bT l k
def dy{α:Type}:List (Int×α)->Int->α->List (Int×α)
 |[],k,a=>[(k,a)]
 |(b,h)::l,k,a=>if b=k then (b,a)::l else (b,h)::dy l k a
def Eh{α:Type}:List (Int×α)->Int->Nat
 |[],_=>0
 |(a,_)::l,k=>if a=k then 0 else Eh l k+1
def yJ{α:Type}(g:α->D):Nat->List (Int×α)->List (Value×D×Nat)
 |_,[]=>[]
 |i,(k,a)::l=>(.int .i64 k,g a,i)::yJ g (i+1) l
abbrev MB{α:Type}(g:α->D)(l:List (Int×α)):Ob:=.map (yJ g 0 l) l.length
def KK{α b:Type}(o:Option α)(n:b)(s:α->b):b:=match o with | none=>n | some a=>s a
section
variable{α:Type}
theorem xP{m:IntKind}{g:α->D}{k:Int}:∀(l:List (Int×α))(i j:Nat),qJ (.int m) (.int .i64 k) (yJ g i l) j=some ((bT l k).map λa=>(j+Eh l k,g a)):=by
 intro l;induction l with
 |nil=>intro i j;rfl
 |cons x l ih=>
  intro i j;obtain ⟨b,a⟩:=x;simp only[yJ,qJ,Instr.sameNow,if_true];by_cases h:b=k
  ·grind [bT,Eh]
  ·have o:(k == b)=false:=by grind
   simp only[o,ih,bT,Eh,if_neg h]
   grind
theorem Qw{g:α->D}{k:Int}{a:α}:∀(l:List (Int×α))(i:Nat)(b:α),bT l k=some b->(yJ g i l).modify (Eh l k) (λp=>(p.1,g a,p.2.2))=yJ g i (dy l k a)/\(dy l k a).length=l.length:=by
 intro l;induction l with
 |nil=>grind [bT]
 |cons x l ih=>
  intro i b h;obtain ⟨j,m⟩:=x;by_cases hk:j=k
  ·grind [Eh,dy,yJ]
  ·simp only[bT,if_neg hk] at h;obtain ⟨o,r⟩:=ih (i+1) b h
   grind [Eh,dy,yJ]
theorem QS{g:α->D}{k:Int}{a:α}:∀(l:List (Int×α))(i:Nat),bT l k=none->yJ g i l++[(.int .i64 k,g a,i+l.length)]=yJ g i (dy l k a)/\(dy l k a).length=l.length+1:=by
 intro l;induction l with
 |nil=>grind [dy,yJ]
 |cons x l ih=>
  intro i h;obtain ⟨b,j⟩:=x;by_cases hk:b=k
  ·grind [bT]
  ·simp only[bT,if_neg hk] at h;obtain ⟨m,o⟩:=ih (i+1) h;refine ⟨?_,by grind [dy]⟩;simp only[dy,if_neg hk,yJ,List.cons_append,List.length_cons]
   grind
end
section
variable{P:Program}{orc:uE}{n:Nat}{al:AL}{U U1:aq}{d d1 d2:D}{α:Type}
theorem UF{g:α->D}(hd:D.mp U.length=d)(hs:U++[MB g ([]:List (Int×α))]=U1):dQ P orc n al U .sx d U1 []:=λe a=>by subst hd hs;rfl
theorem Wr{i:IntKind}{zero:D}{m k:aP}{b:Nat}{g:α->D}{l:List (Int×α)}{x:Int}{ok:Bool}{a:α}(j:lx al m=some (.mp b))(o:U[b]? = some (MB g l))(hk:lx al k=some (I x))(p:bT l x=some a)(hd:(if ok then .aT [g a,B true] else g a)=d) :
  dQ P orc n al U (.lookup (.int i) zero m k ok) d U []:=λe h=>by
 subst hd;simp only[bg,dY h j,dY h hk,gZ,EJ,o,Option.bind_eq_bind,Option.bind_some,xP,p,Option.map_some,Vt]
theorem Sr{h:IntKind}{zero:D}{m k:aP}{b:Nat}{g:α->D}{l:List (Int×α)}{x:Int}{ok:Bool}(i:lx al m=some (.mp b))(j:U[b]? = some (MB g l))(hk:lx al k=some (I x))(o:bT l x=none)(hd:(if ok then .aT [zero,B false] else zero)=d) :
  dQ P orc n al U (.lookup (.int h) zero m k ok) d U []:=λe a=>by
 subst hd;simp only[bg,dY a i,dY a hk,gZ,EJ,j,Option.bind_eq_bind,Option.bind_some,xP,o,Option.map_none,Vt]
theorem op_upd{o:IntKind}{m k x:aP}{b:Nat}{g:α->D}{l:List (Int×α)}{i:Int}{a:α}(p:lx al m=some (.mp b))(r:U[b]? = some (MB g l))(hk:lx al k=some (I i))(s:lx al x=some (g a))(hs:U.set b (MB g (dy l i a))=U1) :
  dQ P orc n al U (.vD (.int o) m k x) (.aT []) U1 [b]:=λe h=>by
 subst hs;simp only[bg,dY h p,dY h hk,gZ,r,Option.bind_eq_bind,Option.bind_some,xP,dY h s];cases j:bT l i with
 |some u=>
  obtain ⟨v,y⟩:=Qw (g:=g) (a:=a) l 0 u j
  grind
 |none=>
  obtain ⟨v,y⟩:=QS (g:=g) (a:=a) l 0 j
  grind
def tT{α:Type}:List (Int×α)->Int->List (Int×α)
 |[],_=>[]
 |(b,a)::l,k=>if b=k then l else (b,a)::tT l k
theorem Fe{α:Type}{k:Int}:∀(l:List (Int×α)),bT l k=none->tT l k=l
 |[],_=>rfl
 |(b, a) :: l, h => by
  by_cases hk:b=k
  ·grind [bT]
  ·simp only[bT,if_neg hk] at h;simp only[tT,if_neg hk,Fe l h]
theorem Km{α:Type}{g:α->D}:∀(l:List (Int×α))(i j:Nat),lV j (yJ g i l)=yJ g j l
 |[],_,_=>rfl
 |(k,a)::l,i,j=>by simp only[yJ,lV,Km l]
theorem EZ{α:Type}{g:α->D}{k:Int}:∀(l:List (Int×α))(i j:Nat)(b:α),bT l k=some b->lV j ((yJ g i l).eraseIdx (Eh l k))=yJ g j (tT l k)/\(tT l k).length=l.length-1
 |[],_,_,_,h=>by grind [bT]
 |(m, a) :: l, i, j, b, h => by
  by_cases hk:m=k
  ·grind [Eh,tT,yJ,Km]
  ·simp only[bT,if_neg hk] at h;obtain ⟨o,p⟩:=EZ l (i+1) (j+1) b h;have r:0<l.length:=by
    grind [bT]
   simp only[Eh,tT,hk,yJ,bn,List.eraseIdx_cons_succ,lV,List.length_cons];exact ⟨by rw[o],by omega⟩
theorem op_del{h:IntKind}{m k:aP}{b:Nat}{g:α->D}{l:List (Int×α)}{i:Int}(j:lx al m=some (.mp b))(o:U[b]? = some (MB g l))(hk:lx al k=some (I i))(hs:U.set b (MB g (tT l i))=U1) :
  dQ P orc n al U (.del (.int h) m k) (.aT []) U1 [b]:=λe a=>by
 subst hs;simp only[bg,dY a j,dY a hk,gZ,o,Option.bind_eq_bind,Option.bind_some,xP];cases p:bT l i with
 |some r=>
  obtain ⟨s,u⟩:=EZ (g:=g) l 0 0 r p
  grind
 |none=>grind [Fe]
theorem OG{f:Fn}{first cap:List aP}{a b:List D}(h:Ri al first=some a)(i:Ri al cap=some b):dQ P orc n al U (.CR f first cap) (.fn f a b) U []:=λe j=>by grind [bg,Gj]
theorem Jl{g:FuncId}{f:aP}{args:List aP}{ds a b:List D}{w:List Nat}(h:lx al f=some (.fn (.func g) a b))(i:Ri al args=some ds)(j:orc g (a++ds++b) U=some (d,U1,w)):dQ P orc n al U (.call f args) d U1 w:=λe l=>by grind [bg,dY,Gj]
theorem Vd{g:FuncId}{f:aP}{args:List aP}{ds:List D}{a b:List C}{w:List Nat}(h:lx al f=some (.c (.fn (.func g) a b)))(i:Ri al args=some ds)(j:orc g (a.map .c++ds++b.map .c) U=some (d,U1,w)):dQ P orc n al U (.call f args) d U1 w:=λe l=>by grind [bg,dY,Gj]
theorem WZ{aA j b off len sz:Nat}{x i:aP}{k:Int}{cs:List D}(h:lx al x=some (.sl b off len aA sz))(l:lx al i=some (I k))(m:nl U b sz=some cs)(hk:Af k len=some j)(hd:D.ptr b (off+j * aA) sz=d) :
  dQ P orc n al U (.idx aA none x i) d U []:=λe a=>by
 subst hd;simp only[bg,dY a h,dY a l,sc,Option.bind_eq_bind,Option.bind_some,m,hk,if_true]
theorem XW{b off len aA sz:Nat}{x:aP}{cs:List D}(h:lx al x=some (.sl b off len aA sz))(a:nl U b sz=some cs)(hd:I len=d):dQ P orc n al U (.len x) d U []:=λe i=>by grind [bg,Fc,dY]
theorem QF{x:aP}{cs:List C}{off:Nat}(h:lx al x=some (.c (.cA cs off))):dQ P orc n al U (.lD x) (.c (.cA cs off)) U []:=λe a=>by grind [bg,dY]
theorem PE{x:aP}{f:FuncId}{a b:List C}(h:lx al x=some (.c (.fn (.func f) a b))):dQ P orc n al U (.lD x) (.c (.fn (.func f) a b)) U []:=λe i=>by grind [bg,dY]
theorem Fx{x:aP}{f:FuncId}{a b:List D}(h:lx al x=some (.fn (.func f) a b)):dQ P orc n al U (.lD x) (.fn (.func f) a b) U []:=λe i=>by grind [bg,dY]
end
section
variable{P:Program}{orc:uE}{n:Nat}{al:AL}{U U1:aq}{d d1 d2:D}{α:Type}{f:α->List C}{aA:Nat}
theorem Cf{a:Nat}{s x:aP}{m:List α}(h:lx al s=some (.c (.lit (.slice none 0 0))))(r:lx al x=some d)(o:Src U f aA d m)(u:Nat.ble m.length 1000000=true)
  (l:Nat.ble a 1000=true) (hd:OS aA U.length m.length=d1) (hs:U++[OB f m]=U1):dQ P orc n al U (.append aA a s x) d1 U1 []:=by
 subst hd hs;have i:a<=1000:=DM l;have j:m.length<=1000000:=DM u;have b:DL m.length a=true:=by have:m.length * a<=1000000 * 1000:=Nat.mul_le_mul j i;simp only[DL,bJ,bb];omega
 intro e p;have:bg P orc (.append aA a s x) e U=(Fc U d).bind λk=>(Sl U aA k d).bind λnew=>if DL k a then some (.sl U.length 0 k aA (k * aA),U++[.cells new],[]) else none:=by simp only[bg,dY p h,dY p r];rfl
 rw[this,o.1,aE,o.2,aE,if_pos b]
end
def MZ:Nat->C->C
 |n+1,.cU _ es=>.cU false (es.map λe=>e.map (MZ n))
 |_+1,.lit (.slice none 0 0)=>.cU false []
 |_,x=>x
theorem Og{Fz:Nat->Prop}{w:World}:∀(n:Nat){x:C}{v:Value},VC Fz w x v->VC Fz w (MZ n x) v:=by
 intro n;induction n with
 |zero=>intro x v h;exact h
 |succ n ih=>
  intro x v h;by_cases z:x=.lit (.slice none 0 0)
  ·subst z;cases h;exact .cU (es:=[]) 0 none 0 (by simp) (λ_=>rfl) (λ_ _=>undef) (by simp) (by simp) (by simp) (by simp)
  cases h with
  | @cU nn es aA a cap A E c F u y l=>
   have h:=VC.cU (Fz:=Fz) (w:=w) (nn:=false) (es:=es.map λe=>e.map (MZ n)) aA a cap (by simp) E c (λe O=>?_) (by simp_all) (λi j e d m p=>?_) (λi j e d m p=>?_)
   ·rw[A_] at h;exact h
   ·grind
   ·grind
   grind
  |lit v=>
   have:MZ (n+1) (.lit v)=.lit v:=by
    unfold MZ
    simp_all
   rw[this];exact .lit v
  |cA blk o c r y l=>exact .cA blk o c r y l
  |fn G K m p l L=>exact .fn G K m p l L
  |Kl blk b s r N hs hk l=>exact .Kl blk b s r N hs hk l
  |Rb g=>exact .Rb g
def nrmY:D->D
 |.c x=>.c (MZ 5 x)
 |.agg ds=>.agg (ds.map λd=>match d with | .c x=>.c (MZ 5 x) | d=>d)
 |d=>d
theorem Dw.Xa{d j:D}(h:nrmY d=j):Dw d j:=by
 subst h;intro U M Fz w v h;unfold nrmY;split
 ·cases h with | c h=>exact .c (Og 5 h)
 ·cases h with
  |agg o z s=>
   refine .agg o (by simp_all) (λi d v a b=>?_);simp only[jX,cu] at a;obtain ⟨u,x,rfl⟩:=a;have:=s i u v x b;split
   ·cases this with | c h=>exact .c (Og 5 h)
   omega
 omega
def aab(S F:D):Ob->Ob->Prop
 |.map es c,.map b l=>c=l/\b.length=es.length/\∀(i:Nat) k a n,b[i]? = some (k,a,n)->∃d,es[i]? = some (k,d,n)/\(a=d∨d=S/\a=F)
 |.cells j,.cells h=>h.length=j.length/\∀(i:Nat) a,h[i]? = some a->∃d,j[i]? = some d/\(a=d∨d=S/\a=F)
 |_,_=>False
theorem aab.sz{S F:D}{ob ob':Ob}(h:aab S F ob ob'):ob'.sz=ob.sz:=by
 cases ob <;> cases ob' <;> simp only[aab] at h
 ·exact h.1
 ·rfl
section
variable{P:Program}{U U0 U1:aq}{n:Nat}{al:AL}{ac:br}{Q:qd->AL->aq->Prop}{α:Type}{f:α->List C}{aA:Nat}
end
end Go.Abs
end
section
namespace Go.Fl
open Ieee
theorem log2_lt{n k:Nat}(a:n≠0)(h:n<2 ^ k):n.log2<k:=(Nat.log2_lt a).2 h
theorem OJ{n:Nat}(a:n≠0):2 ^ n.log2<=n:=Nat.log2_self_le a
theorem OF(n:Nat):n<2 ^ (n.log2+1):=Nat.lt_log2_self
theorem lp:double.leastPlace=-1074:=by decide
def can(s:Bool)(n:Nat):Datum:=if n=0 then .number s 0 (-1074) else .number s (n * 2 ^ (52-n.log2)) ((n.log2:Int)-52)
theorem B_(a:Toward)(s:Bool)(n:Nat):a.cut s n 0=n:=by
 unfold Toward.cut;have h:1 <<< min 0 (n.log2+2)=1:=by simp_all
 have b:n % 1=0:=Nat.mod_one n;simp only[h,Nat.div_one,b];cases a <;> simp
theorem Pc{s:Bool}{n d m:Nat}(hd:d<=n.log2+2)(h:n=m * 2 ^ d):Toward.even.cut s n d=m:=by
 unfold Toward.cut;have a:1 <<< min d (n.log2+2)=2 ^ d:=by rw[Nat.min_eq_left hd,Nat.one_shiftLeft]
 have b:0<2 ^ d:=Nat.pow_pos (by decide)
 simp_all
theorem yV{m d:Nat}(h:m≠0):(m * 2 ^ d).log2=m.log2+d:=by
 have b:=OJ h;have i:=OF m;have a:m * 2 ^ d≠0:=by grind [Nat.mul_ne_zero]
 apply Nat.le_antisymm
 ·have:m * 2 ^ d<2 ^ (m.log2+d+1):=by
   rw[show m.log2+d+1=(m.log2+1)+d by omega,yBQ];exact Nat.mul_lt_mul_of_pos_right i (Nat.pow_pos (by decide))
  have:=log2_lt a this;omega
 ·have:2 ^ (m.log2+d)<=m * 2 ^ d:=by
   rw[yBQ];exact Sd _ b
  exact (Nat.le_log2 a).2 this
theorem QJ{s:Bool}{n k:Nat}(a:n≠0)(h:n<2 ^ 53):double.nearest s (n * 2 ^ k) (-(k:Int))=double.nearest s n 0:=by
 have o:=log2_lt a h;have e:(n * 2 ^ k).log2=n.log2+k:=yV a;have j:n * 2 ^ k≠0:=Nat.mul_ne_zero a (by simp_all);have p:double.fractionBits=52:=rfl;have l:max (-(k:Int)+((n * 2 ^ k).log2:Nat)-((52:Nat):Int)) (-1074)=(n.log2:Int)-52:=by omega
 have m:max ((0:Int)+(n.log2:Nat)-((52:Nat):Int)) (-1074)=(n.log2:Int)-52:=by omega
 have r:Toward.even.cut s ((n * 2 ^ k) <<< (-(k:Int)-((n.log2:Int)-52)).toNat) (((n.log2:Int)-52) - -(k:Int)).toNat=n * 2 ^ (52-n.log2):=by
  by_cases hk:k+n.log2<=52
  ·have b:(-(k:Int)-((n.log2:Int)-52)).toNat=52-n.log2-k:=by omega
   have i:(((n.log2:Int)-52) - -(k:Int)).toNat=0:=by omega
   rw[b,i,B_,Nat.shiftLeft_eq,Nat.mul_assoc,<-yBQ]
   grind
  ·have b:(-(k:Int)-((n.log2:Int)-52)).toNat=0:=by omega
   have i:(((n.log2:Int)-52) - -(k:Int)).toNat=k+n.log2-52:=by omega
   rw[b,i,Nat.shiftLeft_zero];refine Pc (by omega) ?_;rw[Nat.mul_assoc,<-yBQ]
   grind
 have u:Toward.even.cut s (n <<< ((0:Int)-((n.log2:Int)-52)).toNat) (((n.log2:Int)-52)-0).toNat=n * 2 ^ (52-n.log2):=by
  have b:((0:Int)-((n.log2:Int)-52)).toNat=52-n.log2:=by omega
  have i:(((n.log2:Int)-52)-0).toNat=0:=by omega
  grind [B_,Nat.shiftLeft_eq]
 unfold Format.nearest;rw[if_neg j,if_neg a]
 grind [lp]
theorem Pa{s:Bool}{n:Nat}(h:n<2 ^ 53):double.read (double.nearest s n 0)=can s n:=by
 by_cases b:n=0
 ·subst b;cases s <;> rfl
 have p:=log2_lt b h;have r:=OJ b;have u:=OF n;have v:double.fractionBits=52:=rfl;have a:max ((0:Int)+(n.log2:Nat)-((52:Nat):Int)) (-1074)=(n.log2:Int)-52:=by omega
 have i:Toward.even.cut s (n <<< ((0:Int)-((n.log2:Int)-52)).toNat) (((n.log2:Int)-52)-0).toNat=n * 2 ^ (52-n.log2):=by
  have N:((0:Int)-((n.log2:Int)-52)).toNat=52-n.log2:=by omega
  have O:(((n.log2:Int)-52)-0).toNat=0:=by omega
  grind [B_,Nat.shiftLeft_eq]
 have x:4503599627370496<=n * 2 ^ (52-n.log2):=by have:2 ^ n.log2 * 2 ^ (52-n.log2)<=n * 2 ^ (52-n.log2):=Sd _ r;rw[<-yBQ,show n.log2+(52-n.log2)=52 by omega] at this;omega
 have y:n * 2 ^ (52-n.log2)<9007199254740992:=by have:n * 2 ^ (52-n.log2)<2 ^ (n.log2+1) * 2 ^ (52-n.log2):=Nat.mul_lt_mul_of_pos_right u (Nat.pow_pos (by decide));rw[<-yBQ,show n.log2+1+(52-n.log2)=53 by omega] at this;omega
 have m:double.infRung=9218868437227405312:=by decide
 have z:double.signWeight=9223372036854775808:=by decide
 have o:double.binade=4503599627370496:=by decide
 unfold can;rw[if_neg b];generalize n * 2 ^ (52-n.log2)=K at i x y ⊢;generalize A:n.log2=L at i a p ⊢;have E:double.nearest s n 0=double.word s ((L+1022) * 4503599627370496+K):=by
  unfold Format.nearest;rw[if_neg b];simp only[v,lp,A,a,i,m,o];have F:(((L:Int)-52) - -1074).toNat=L+1022:=by omega
  rw[F,Nat.min_eq_left (by omega)]
 rw[E];generalize S:(L+1022) * 4503599627370496+K=R;have G:R<9223372036854775808:=by omega
 have j:(double.word s R / double.signWeight % 2 == 1)=s:=by
  unfold Format.word;rw[z];cases s
  ·grind
  ·rw[if_pos rfl,Nat.add_div_left _ (by decide),Nat.div_eq_of_lt G];rfl
 have l:double.word s R % double.signWeight=R:=by
  unfold Format.word
  grind
 unfold Format.read;simp only[j,l,o,m,lp]
 grind
theorem Sy(s:Bool)(k:Nat):Datum.number s (0 * 2 ^ k) (-(k:Int))=Datum.number s 0 (-(k:Int)):=by simp_all
theorem lO(s:Bool){n:Nat}(h:n<2 ^ 53):∃k:Nat,can s n=.number s (n * 2 ^ k) (-(k:Int)):=by
 unfold can;split
 ·rename_i e;subst e;exact ⟨1074,(Sy s 1074).symm⟩
 ·rename_i a;have:=log2_lt a h
  grind
theorem Lq(s:Bool){n:Nat}(k:Nat)(h:n<2 ^ 53):double.nearest s (n * 2 ^ k) (-(k:Int))=double.nearest s n 0:=by
 by_cases a:n=0
 ·subst a;rw[yBX];unfold Format.nearest
  simp_all
 grind [QJ]
def fl(n:Int):Nat:=FloatKind.f64.nearest n
theorem Sk(n:Int):fl n=double.nearest (decide (n<0)) n.natAbs 0:=rfl
theorem pQ{n:Int}(h:n.natAbs<2 ^ 53):double.read (fl n)=can (decide (n<0)) n.natAbs:=Pa h
def sg(s:Bool)(n:Nat):Int:=if s then -(n:Int) else n
theorem FB(s:Bool)(n i m:Nat)(h:i<=m):signed s (n * 2 ^ i) (m-i)=sg s n * (2 ^ m:Nat):=by
 have e:(n * 2 ^ i) <<< (m-i)=n * 2 ^ m:=by rw[Nat.shiftLeft_eq,Nat.mul_assoc,<-yBQ];simp_all
 unfold signed sg;rw[e]
 grind
theorem Vg(s t:Bool)(a b i j:Nat):Datum.sum (.number s (a * 2 ^ i) (-(i:Int))) (.number t (b * 2 ^ j) (-(j:Int))) =
  some (.number (if sg s a+sg t b=0 then s&&t else decide (sg s a+sg t b<0)) ((sg s a+sg t b).natAbs * 2 ^ (max i j)) (-((max i j:Nat):Int))):=by
 unfold Datum.sum;have p:min (-(i:Int)) (-(j:Int))=-((max i j:Nat):Int):=by omega
 have r:(-(i:Int) - -((max i j:Nat):Int)).toNat=max i j-i:=by omega
 have u:(-(j:Int) - -((max i j:Nat):Int)).toNat=max i j-j:=by omega
 simp only[p,r,u,FB s a i (max i j) (by omega),FB t b j (max i j) (by omega),<-yBR];have o:(0:Int)<((2 ^ max i j:Nat):Int):=by have:0<2 ^ max i j:=Nat.pow_pos (by decide);omega
 have z:((sg s a+sg t b) * ((2 ^ max i j:Nat):Int)=0)↔sg s a+sg t b=0:=by grind [Int.mul_eq_zero]
 have l:((sg s a+sg t b) * ((2 ^ max i j:Nat):Int)<0)↔sg s a+sg t b<0:=by
  constructor
  ·intro h;rcases Int.lt_or_le (sg s a+sg t b) 0 with m | m
   ·exact m
   ·have:=yBV m (Int.le_of_lt o);omega
  ·intro h;exact Int.mul_neg_of_neg_of_pos h o
 grind
theorem MA(n:Int):sg (decide (n<0)) n.natAbs=n:=by
 unfold sg
 grind
theorem fl_add{a b:Int}(p:a.natAbs<2 ^ 52)(r:b.natAbs<2 ^ 52):double.add (fl a) (fl b)=some (fl (a+b)):=by
 have h:a.natAbs<2 ^ 53:=by omega
 have l:b.natAbs<2 ^ 53:=by omega
 obtain ⟨i,m⟩:=lO (decide (a<0)) h;obtain ⟨j,o⟩:=lO (decide (b<0)) l;unfold Format.add;rw[pQ h,pQ l,m,o,Vg,MA,MA];simp only[Option.map_some,Format.write];rw[Lq _ _ (by omega),Sk]
 grind
theorem fl_sub{a b:Int}(p:a.natAbs<2 ^ 52)(r:b.natAbs<2 ^ 52):double.sub (fl a) (fl b)=some (fl (a-b)):=by
 have h:a.natAbs<2 ^ 53:=by omega
 have l:b.natAbs<2 ^ 53:=by omega
 obtain ⟨i,m⟩:=lO (decide (a<0)) h;obtain ⟨j,o⟩:=lO (decide (b<0)) l;have hs:sg (!decide (b<0)) b.natAbs=-b:=by
  unfold sg
  grind
 unfold Format.sub;rw[pQ h,pQ l,m,o];simp only[Datum.opposite];rw[Vg,MA,hs];simp only[Option.map_some,Format.write];rw[Lq _ _ (by omega),Sk,<-Int.sub_eq_add_neg]
 grind
theorem fl_mul{a b:Int}(v:0<=a)(x:0<=b)(l:a.natAbs<2 ^ 53)(o:b.natAbs<2 ^ 53)(h:(a * b).natAbs<2 ^ 53):double.mul (fl a) (fl b)=some (fl (a * b)):=by
 obtain ⟨i,p⟩:=lO (decide (a<0)) l;obtain ⟨j,r⟩:=lO (decide (b<0)) o;have s:decide (a<0)=false:=by simp_all
 have u:decide (b<0)=false:=by simp_all
 have y:decide (a * b<0)=false:=by grind [Int.mul_nonneg]
 unfold Format.mul;rw[pQ l,pQ o,p,r];simp only[Datum.product,s,u,Option.map_some,Format.write];have m:a.natAbs * 2 ^ i * (b.natAbs * 2 ^ j)=(a * b).natAbs * 2 ^ (i+j):=by grind
 grind [Lq,Sk]
theorem ZX{n:Int}(h:n.natAbs<2 ^ 53):(double.read (fl n)).toInt .zero=some n:=by
 obtain ⟨k,hk⟩:=lO (decide (n<0)) h;rw[pQ h,hk];unfold Datum.toInt Datum.integral;have a:(-(k:Int)).toNat=0:=by omega
 have b:(- -(k:Int)).toNat=k:=by omega
 have c:Toward.zero.cut (decide (n<0)) (n.natAbs * 2 ^ k) k=n.natAbs:=by
  by_cases i:n.natAbs=0
  ·rw[i,yBX];unfold Toward.cut;simp
  ·unfold Toward.cut
   grind [yV,Nat.one_shiftLeft,Nat.mul_div_cancel]
 simp only[a,b,Nat.shiftLeft_zero,c]
 grind [Ieee.signed]
end Go.Fl
end
section
namespace Go.Abs
variable[Gl]
def isC:D->Bool
 |.c _=>true
 |_=>false
section
variable{U U':aq}{M M':Nat->Option Nat}{Fz Fz':Nat->Prop}{w w':World}
theorem Sn(ob:Ob):lu U (U++[ob]):=λb o h=>⟨o,by grind,rfl⟩
theorem Le(R:Rel U M Fz w){z:List D}{b:Nat}(hb:U[b]? = some (.cells z))(hM:M b=none)(hz:z.all isC=true){A:Nat->Option Nat}{j:Nat->Prop}{w1:World}{v:Value}
  (N:Rel (U++[.cells z]) A j w1) (hv:V (U++[.cells z]) A j w1 (.ptr U.length 0 z.length) v) (EV:bQ U M Fz w (U++[.cells z]) A j w1) :
  ∃ O, Rel U O j w1 /\ V U O j w1 (.ptr b 0 z.length) v /\ (∀ x c, M x = some c -> O x = some c) /\ (∀ x, x ≠ b -> O x = M x) /\
   ∀(U0:aq)(M0:Nat->Option Nat)(Fz0:Nat->Prop)(w0:World),bQ U0 M0 Fz0 w0 U M Fz w->U0.length<=U.length->U0.length<=b->bQ U0 M0 Fz0 w0 U O j w1:=by
 have a0:=(jy.1 hb).1;have p:∀x,x<U.length->A x=M x:=λx u=>by have S:U[x]? = some U[x]:=dB u;obtain ⟨W,r,_,F⟩:=EV.cX x _ S;rw[Ie u,S] at r;simp only[aw] at r;exact F (by rw[<-r])
 have s:(U++[Ob.cells z])[U.length]? = some (.cells z):=by simp
 obtain ⟨G,a,l,ha,rfl⟩:∃G a,A U.length=some G/\a=(⟨G,0,none⟩:Addr)/\v=.pointer (some a):=by
  cases hv with
  |ptr a X h a1 hv=>rw[s] at h;simp only[aw] at h;subst h;obtain ⟨c,r,m⟩:=hv (by simp[Ob.sz]);exact ⟨c,a,r,m,rfl⟩
 have ad:w.heap.size<=G:=by
  rcases EV.oA _ _ l with ⟨b0,h⟩ | h
  ·have Z:=(R.lt h).1;have:=N.inj b0 U.length G (by rw[p b0 Z];exact h) l;omega
  ·exact h
 have e1:∀x c,(if x=b then A U.length else M x)=some c->(x=b/\c=G)∨(x≠b/\M x=some c):=λx c h=>by
  split at h
  ·rw[l] at h;simp only[aw] at h;exact .inl ⟨‹_›,h.symm⟩
  ·exact .inr ⟨‹_›,h⟩
 have af:∀x c,M x=some c->x≠b:=λx c h e=>by rw[e,hM] at h;simp at h
 have E:∀x c,M x=some c->(if x=b then A U.length else M x)=some c:=λx c h=>by rw[if_neg (af x c h)];exact h
 have ak:∀(i:Nat) d,z[i]? = some d->∃x,d=.c x:=λi d h=>by have:=gH.1 hz d (yl h);cases d <;> first | exact ⟨_,rfl⟩ | simp[isC] at this
 refine ⟨λx=>if x=b then A U.length else M x,⟨λx c h=>?_,λx x' c h h'=>?_,N.fz,N.gl⟩,?_,E,λx u=>if_neg u,λU0 M0 Fz0 w0 E0 Z a2=>?_⟩
 ·rcases e1 x c h with ⟨rfl,rfl⟩ | ⟨u,h⟩
  ·obtain ⟨r,X,o,m,F,h4⟩:=N.blk _ _ l;rw[s] at m;simp only[aw] at m;subst m;refine ⟨r,_,o,hb,F,?_⟩;obtain ⟨av,T,ho,Z,u⟩:=h4;refine ⟨av,T,ho,Z,λi d v q1 q2=>?_⟩;obtain ⟨x,rfl⟩:=ak i d q1;obtain ⟨q3,q4⟩:=u i _ v q1 q2;refine ⟨?_,q4⟩;cases q3 with
   |c q3=>exact .c q3
  ·obtain ⟨_,a3,o0,k2,_,k4⟩:=R.blk x c h;have K:=(R.lt h).1;obtain ⟨r,X,o,m,F,h4⟩:=N.blk x c (by rw[p x K];exact h);rw[Ie K] at m;refine ⟨r,X,o,m,F,?_⟩;rw[k2] at m;simp only[aw] at m;subst m;refine (cf.down (Sn (.cells z)) h4 k4).cut.sub lu.refl (λy c' hy=>?_);unfold cG at hy;split at hy
   ·rename_i ax;rw[p y ax] at hy;exact E y c' hy
   ·simp at hy
 ·rcases e1 x c h with ⟨g1,g2⟩ | ⟨_,g2⟩ <;> rcases e1 x' c h' with ⟨g3,g4⟩ | ⟨_,g4⟩
  ·rw[g1,g3]
  ·have:=(R.lt g4).2;omega
  ·have:=(R.lt g2).2;omega
  ·exact R.inj x x' c g2 g4
 ·subst ha;exact .ptr _ (.cells z) hb (cT _) λ_=>⟨G,by rw[if_pos rfl];exact l,rfl⟩
 ·have L:=E0.trans EV Z;refine ⟨L.size,L.frame,λx c h=>?_,L.fz,L.rS,L.sa,λx X u=>?_,L.out⟩
  ·rcases e1 x c h with ⟨rfl,rfl⟩ | ⟨_,h⟩
   ·exact L.oA _ _ l
   ·exact E0.oA _ _ h
  ·obtain ⟨W,r,m,F⟩:=E0.cX x X u;have K:=(jy.1 u).1;exact ⟨W,r,m,λe=>by rw[if_neg (by omega)];exact F e⟩
end
section
variable{P:Program}{orc:ig}{ops:Array Oper}{os:List aM}{q n0:Nat}{env:Nat->List D}{sg:Nat->aq}{wrs:Nat->List Nat}
variable{M0:Nat->Option Nat}{Fz0:Nat->Prop}{w0:World}{sf:List Deferred}
def mO(os:List aM)(q:Nat):Prop:=∀i,i<q->∃t ao,os[i]? = some ⟨some t,ao,none⟩/\((∃z,ao=.alloc z/\z.all isC=true)∨(∃x,ao=.DR x)∨∃n x,ao=.load n x)
theorem Ik{P:Program}{orc:uE}{ao:lg}(h:(∃x,ao=.DR x)∨∃n x,ao=.load n x){env:List D}{U U1:aq}{d:D}{wr:List Nat}(a:bg P orc ao env U=some (d,U1,wr)) :
  U1=U/\wr=[]/\∀U2:aq,(∀b off sz,TE ao env=.ptr b off sz->U2[b]? = U[b]?)->bg P orc ao env U2=some (d,U2,[]):=by
 rcases h with ⟨x,rfl⟩ | ⟨n,x,rfl⟩
 ·simp only[bg,aw,ba] at a;obtain ⟨rfl,rfl,rfl⟩:=a;exact ⟨rfl,rfl,λ_ _=>rfl⟩
 ·simp only[bg] at a;split at a
  ·rename_i b off sz i;simp only[Option.bind_eq_bind,cr,aw,ba] at a;obtain ⟨j,m,v,l,rfl,rfl,rfl⟩:=a;refine ⟨rfl,rfl,λU2 h=>?_⟩;have e:=h b off sz i
   grind [nl,bg]
  ·rename_i j off i;simp only[Option.bind_eq_bind,cr,aw,ba] at a;obtain ⟨v,l,rfl,rfl,rfl⟩:=a;exact ⟨rfl,rfl,λU2 _=>by grind [bg]⟩
  simp_all
theorem mO.step(H:mO os q)(T:Tr P orc ops os 0 n0 env sg wrs){i:Nat}(u:i<q):∃t ao d,os[i]? = some ⟨some t,ao,none⟩/\env (i+1)=mj (env i) (some t) d/\wrs i=[]/\bg P (orc (some t)) ao (env i) (sg i)=some (d,sg (i+1),[]) /\
  ((∃z,ao=.alloc z/\z.all isC=true/\d=.ptr (sg i).length 0 z.length/\sg (i+1)=sg i++[.cells z])∨(((∃x,ao=.DR x)∨∃n x,ao=.load n x)/\sg (i+1)=sg i)):=by
 obtain ⟨t,ao,A,j⟩:=H i u;have:=T.step i _ A;simp only[eB,jh,cu] at this;obtain ⟨⟨d,s1,w1⟩,o,s⟩:=this;simp only[ba] at s;obtain ⟨F,rfl,rfl⟩:=s;rcases j with ⟨z,rfl,G⟩ | j
 ·have E:=o;simp only[bg,aw,ba] at E
  grind
 ·obtain ⟨K,L,_⟩:=Ik j o
  grind
theorem mO.wr(H:mO os q)(T:Tr P orc ops os 0 n0 env sg wrs){i:Nat}(j:i<q):wrs i=[]:=by obtain ⟨_,_,_,_,_,h,_⟩:=H.step T j;exact h
theorem mO.blk(H:mO os q)(T:Tr P orc ops os 0 n0 env sg wrs){i t:Nat}{z:List D}(j:i<q)(o:os[i]? = some ⟨some t,.alloc z,none⟩):z.all isC=true/\env (i+1)=mj (env i) (some t) (.ptr (sg i).length 0 z.length)/\sg (i+1)=sg i++[.cells z]:=by
 obtain ⟨s,ao,d,u,x,_,_,A⟩:=H.step T j
 simp_all
structure Lt (os:List aM) (q:Nat) (env:Nat->List D) (sg:Nat->aq) (M0:Nat->Option Nat) (Fz0:Nat->Prop) (w0:World) (sf:List Deferred) (S:Nat->Prop) (k:Nat) (M:Nat->Option Nat) (Fz:Nat->Prop) (w:World) (a:Act):Prop where
 Pd:a.tmps.size=(env k).length
 sf:a.defers=sf
 rel:Rel (sg k) M Fz w
 tmp:∀t d v,(∀i x,i<q->os[i]? = some x->x.dst=some t->S i)->(env k)[t]? = some d->a.tmps[t]? = some v->V (sg k) M Fz w d v
 non:∀i t z,i<q->os[i]? = some ⟨some t,.alloc z,none⟩->¬S i->M (sg i).length=none
 W_:bQ (sg 0) M0 Fz0 w0 (sg k) M Fz w
theorem Inv.late{S:Nat->Prop}{M:Nat->Option Nat}{Fz:Nat->Prop}{w:World}{a:Act}(I:Inv os n0 env sg wrs M0 Fz0 w0 sf S M Fz w a)(T:Tr P orc ops os 0 n0 env sg wrs)(O:pC P orc)(H:mO os q)
  (hS:∀i,q<=i->i<n0->S i) (hq:q<=n0) (R:∀b,M0 b≠none->b<(sg 0).length):Lt os q env sg M0 Fz0 w0 sf S n0 M Fz w a:=by
 have Z:=T.le;refine ⟨by rw[I.Pd,T.zo O T.le],I.sf,⟨λb c h=>?_,I.inj,I.fz,Gl.mono I.Co.fz I.gl0⟩,λt d v hc x E=>?_,λi t z u W hn=>?_,?_⟩
 ·obtain ⟨x,E,s⟩:=I.own b c h;have A:b<(sg n0).length:=by
   rcases s with ⟨s,_⟩ | ⟨j,X,_,_,s⟩
   ·exact EM s (T.cn O (by omega) T.le)
   ·exact EM s (T.cn O (by omega) T.le)
  have F:(sg n0)[b]? = some (sg n0)[b]:=dB A;obtain ⟨o,h4,h5⟩:=I.blk b c h n0 _ (cT _) F (λi u hw=>⟨λ_=>by
   rcases uS i q with h | h
   ·rw[H.wr T h] at hw
    grind
   simp_all,λ_=>u⟩)
  simp_all
 ·exact I.tmp t n0 (cT _) (λi o u W hd=>⟨λ_=>by grind,λ_=>u⟩) d v x E
 ·cases G:M (sg i).length with
  |none=>rfl
  |some c=>
   obtain ⟨_,_,s⟩:=I.own _ c G;have l1:=T.cn O (m:=0) (m':=i) (by omega) (by omega);have l2:(sg (i+1)).length=(sg i).length+1:=by rw[(H.blk T u W).2.2];simp
   rcases s with ⟨s,_⟩ | ⟨j,X,ad,h4,h5⟩
   ·omega
   ·rcases yBv j i with h | h | h
    ·have:=T.cn O (m:=j+1) (m':=i) (by omega) (by omega);omega
    ·simp_all
    ·have:=T.cn O (m:=i+1) (m':=j) (by omega) (by omega);omega
 ·refine ⟨I.Co.size,I.Co.frame,λb c h=>?_,I.Co.fz,λc h=>?_,I.Co.sa,λb ob A=>?_,I.Co.out⟩
  ·rcases I.Co.oA b c h with h | h
   ·grind
   omega
  ·rcases I.Co.rS c h with h | h
   ·simp_all
   omega
  ·obtain ⟨K,x,E⟩:=T.sz O (by omega) (cT n0) b ob A;refine ⟨K,x,by omega,λ_=>?_⟩;have af:=(jy.1 A).1;cases G:M0 b with
   |some c=>exact I.Co.ext b c G
   |none=>
    cases L:M b with
    |none=>rfl
    |some c=>
     obtain ⟨_,_,s⟩:=I.own b c L;rcases s with ⟨_,s⟩ | ⟨j,X,_,s,_⟩
     ·simp_all
     ·have:=T.cn O (m:=0) (m':=j) (by omega) (by omega);omega
theorem mO.off(H:mO os q)(T:Tr P orc ops os 0 n0 env sg wrs){i k t:Nat}{z:List D}(s:i<q)(o:os[i]? = some ⟨some t,.alloc z,none⟩)(j:i<k)(hk:k<os.length)(x:¬AR ops i k):(sg i).length∉wrs k:=by
 obtain ⟨y,u⟩:=T.at hk;rcases T.pair i k _ y j o u with h | h
 ·simp_all
 ·obtain ⟨_,_,_,_,_,A,_⟩:=fS h;have E:(sg (i+1)).length=(sg i).length+1:=by rw[(H.blk T s o).2.2];simp
  grind [cQ]
theorem mO.look(T:Tr P orc ops os 0 n0 env sg wrs){i k t b off sz:Nat}{ao:lg}(o:os[i]? = some ⟨some t,ao,none⟩)(u:(∃x,ao=.DR x)∨∃n x,ao=.load n x)(z:TE ao (env i)=.ptr b off sz)(j:i<k)(hk:k<os.length)(A:¬AR ops i k):b∉wrs k:=by
 obtain ⟨y,s⟩:=T.at hk;rcases T.pair i k _ y j o s with h | h
 ·simp_all
 ·obtain ⟨_,_,_,E,_⟩:=fS h
  grind [TE,safe,cQ,jh,cat]
theorem GN{a:Act}{b:Option Nat}{v i:Value}{t:Nat}(h:(a.put b v).tmps[t]? = some i):(b=some t/\i=v)∨(b≠some t/\a.tmps[t]? = some i):=by
 cases b with
 |none=>exact .inr ⟨by simp,h⟩
 |some s=>
  simp only[Act.put,yBa] at h
  grind
theorem BY{a:Act}{b:Option Nat}{v:Value}:(a.put b v).tmps.size=a.tmps.size:=by cases b <;> simp[Act.put]
theorem HV{a:Act}{b:Option Nat}{v:Value}:(a.put b v).defers=a.defers:=by cases b <;> rfl
theorem NG(O:pC P orc)(T:Tr P orc ops os 0 n0 env sg wrs)(H:mO os q)(hq:q<=n0)(ch:∀i j,q<=i->i<j->n0<=j->j<os.length->AR ops i j)
  (hg:∀(i:Nat) x,os[i]? = some x->x.g=none) (bd:∀(i j:Nat) x y t,i<q->i<j->os[i]? = some x->os[j]? = some y->x.dst=some t->y.dst≠some t) (be:∀(i j:Nat) x y t,i<q->i<=j->os[i]? = some x->os[j]? = some y->y.dst=some t->t∉wU x)
  (ck:∀listed:Array Bool,listed.size=ops.size->Region.ready .any ops listed=[]->∀i,i<ops.size->fV listed i) {Q:Exit->Act->World->Prop}
  (hQ:∀a' w' M' Fz',a'.defers=sf->Rel (sg os.length) M' Fz' w'->dk (sg os.length) M' Fz' w' (env os.length) a'.tmps->bQ (sg 0) M0 Fz0 w0 (sg os.length) M' Fz' w'->Q .normal a' w') :
  ∀ (R : Nat) (listed : Array Bool) (k : Nat) (M : Nat -> Option Nat) (Fz : Nat -> Prop) (w : World) (a : Act), listed.size = ops.size -> n0 <= k -> k <= os.length -> (∀ i, q <= i -> i < ops.size -> (fV listed i ↔ i < k)) -> fC ops (fV listed) ->
   PN ops.size listed<=R->Lt os q env sg M0 Fz0 w0 sf (fV listed) k M Fz w a->wpAny P .any ops Q R listed a w:=by
 have da:=T.len;have fin:∀(listed:Array Bool)(k:Nat)(M:Nat->Option Nat)(Fz:Nat->Prop)(w:World)(a:Act),n0<=k->k<=os.length->(∀i,q<=i->i<ops.size->(fV listed i↔i<k))->(∀i,i<ops.size->fV listed i) ->
   Lt os q env sg M0 Fz0 w0 sf (fV listed) k M Fz w a->Q .normal a w:=λlisted k M Fz w a hk u hS ak L=>by
  have cm:k=os.length:=by grind
  subst cm;exact hQ a w M Fz L.sf L.rel ⟨L.Pd,λt d v h1 h2=>L.tmp t d v (λi x r _ _=>ak i (by omega)) h1 h2⟩ L.W_
 intro R;induction R with
 |zero=>
  intro listed k M Fz w a bh hk u hS hC hf L;have ak:=tz (N:=ops.size) (listed:=listed) (by omega);refine ⟨?_,fin listed k M Fz w a hk u hS ak L⟩;cases hr:Region.ready .any ops listed with
  |nil=>rfl
  |cons j l=>
   have hm:j∈Region.ready .any ops listed:=by simp_all
   rw[mem_ready] at hm
   grind [fV]
 |succ R ih=>
  intro listed k M Fz w a bh hk u hS hC hf L;refine ⟨λhr=>fin listed k M Fz w a hk u hS (ck listed bh hr) L,λj hj=>?_⟩;rw[mem_ready] at hj;obtain ⟨h1,o,ho,co⟩:=hj;have cv:j<ops.size:=(KR.1 ho).1;have a1:¬fV listed j:=by grind [fV]
  have a3:∀o' e,ops[j]? = some o'->e∈o'.after->Region.binds .any e=true->fV listed e.on:=λo' e A he c0=>by rw[ho] at A;simp only[aw] at A;subst A;exact co e he c0
  have a6:fC ops (fV (listed.setIfInBounds j true)):=by
   intro i o' e r A he W;rw[HD (by omega)] at r ⊢;rcases r with r | rfl
   ·exact .inl (hC i o' e r A he W)
   simp_all
  have hu:=Bh (N:=ops.size) (listed:=listed) (k:=j) (by omega) cv a1;have c2:∀i,i<q->¬fV listed i->¬AR ops i j:=λi r hn W=>hn (W.ready hC a3);rcases uS j q with af | af
  ·
   obtain ⟨t,ao,d,F,av,bi,a4,a7⟩:=H.step T af;obtain ⟨o',A,G⟩:=T.comp j _ F;rw[ho] at A;simp only[aw] at A;subst A;unfold cO at G;split at G
   ·rename_i g p a8 E;simp only[aw,aM.mk.injEq] at G;obtain ⟨bt,rfl,rfl⟩:=G;have same:∀s,s∈wU (⟨some t,p,none⟩:aM)->(env k)[s]? = (env j)[s]?:=λs hs=>
     T.yq O (m:=j) (m':=k) (t:=s) (by omega) u (λi x r _ hx hd=>be j i _ x s af r F hx hd hs)
    have hE:dk (sg k) M Fz w (jt (wU ⟨some t,p,none⟩) (env k)) a.tmps:=by
     refine ⟨by grind [Lt.Pd,jt],λi d v h1 h2=>?_⟩;rw[oR] at h1;simp only[cu] at h1;obtain ⟨d0,h3,h4⟩:=h1;by_cases ht:(wU ⟨some t,p,none⟩).contains i=true
     ·rw[if_pos ht] at h4;subst h4;refine L.tmp i d0 v (λm x hm hx hd=>?_) h3 h2;rcases uS m j with bu | bu
      ·rcases T.pair m j x _ bu hx F with W | W
       ·grind
       ·obtain ⟨h5,_⟩:=fS W;exact absurd (show i∈wU ⟨some t,p,none⟩ by simp_all) (h5 i hd)
      grind
     ·rw[if_neg ht] at h4;subst h4;exact .any v
    have X:=uM (ops:=ops) (o:=o) (g:=none) (b:=true) hE a8 rfl;have a5:∀S d' v',(env k)[S]? = some d'->a.tmps[S]? = some v'->S≠t->(∀i x,i<q->os[i]? = some x->x.dst=some S->fV (listed.setIfInBounds j true) i)->V (sg k) M Fz w d' v':=λS d' v' q1 q2 e hc=>by
     refine L.tmp S d' v' (λi x r hx hd=>?_) q1 q2;rcases (HD (by omega) i).1 (hc i x r hx hd) with h | h
     ·exact h
     grind
    have db:∀d',(env k)[t]? = some d'->d'=d:=λd' q1=>by
     have c3:=T.yq O (m:=j+1) (m':=k) (t:=t) (by omega) u (λi x r _ hx hd=>bd j i _ x t af (by omega) F hx rfl hd);rw[c3,av] at q1;simp only[mj,yBu,if_true] at q1
     simp_all
    have bv:∀i,q<=i->i<ops.size->(fV (listed.setIfInBounds j true) i↔i<k):=λi r bw=>by rw[HD (by omega),hS i r bw];omega
    unfold wpOp;rw[ho];simp only[X,if_true];left;rcases a7 with ⟨z,rfl,hz,rfl,a2⟩ | ⟨a9,a2⟩
    ·refine Ix (O o.dst) L.rel hE E rfl _ λv w1 M1 ax R1 hv EV _=>?_;have c4:(sg j).length<(sg (j+1)).length:=by grind
     have b0:=T.PX O (m:=j+1) (m':=k) (b:=(sg j).length) (by omega) u c4 (λi r bc hw=>by
      rcases uS i q with h | h
      ·rw[H.wr T h] at hw
       grind
      ·exact H.off T af F (by omega) (by omega) (λW=>a1 (W.in hC ((hS i h (by omega)).2 bc))) hw)
     rw[a2,Pv (cT _),Nat.sub_self,xAf] at b0;obtain ⟨M2,R2,dc,b1,b2,a4⟩:=Le L.rel b0 (L.non j t z af F a1) hz R1 hv EV;refine ih (listed.setIfInBounds j true) k M2 ax w1 _ (by grind) hk u bv a6 (by omega) ⟨by rw[BY,L.Pd],by rw[HV,L.sf],R2,λS d v' hc q1 q2=>?_,λi S z' r K hn=>?_,?_⟩
     ·rcases GN q2 with ⟨e,rfl⟩ | ⟨e,q2⟩
      ·grind
      ·exact (a5 S d v' q1 q2 (λh=>e (by grind)) hc).sub lu.refl b1 EV.fz EV.sa
     ·have c5:i≠j:=λe=>hn ((HD (by omega) i).2 (.inr e));have dd:(sg (i+1)).length=(sg i).length+1:=by rw[(H.blk T r K).2.2];simp
      have df:(sg (j+1)).length=(sg j).length+1:=by grind
      rw[b2 _ (by
       intro e;rcases Nat.lt_or_gt_of_ne c5 with h | h
       ·have:=T.cn O (m:=i+1) (m':=j) (by omega) (by omega);omega
       ·have:=T.cn O (m:=j+1) (m':=i) (by omega) (by omega);omega)]
      exact L.non i S z' r K (λh=>hn ((HD (by omega) i).2 (.inl h)))
     ·exact a4 _ _ _ _ L.W_ (T.cn O (by omega) u) (T.cn O (by omega) (by omega))
    ·have b3:bg P (orc (some t)) p (env j) (sg j)=some (d,sg j,[]):=by grind
     have Z:∀U,bg P (orc (some t)) p (jt (wU ⟨some t,p,none⟩) (env k)) U=bg P (orc (some t)) p (env j) U:=λU=>by
      refine wY (lI E) (λx hx=>?_);have b4:∀n,x=.t n->n∈wU (⟨some t,p,none⟩:aM):=λn hn=>by
       subst hn;simp only[wU,zC,List.mem_filterMap]
       grind
      rw[yF b4];cases x with
      |k d=>rfl
      |t n=>simp only[aP.ev,same n (b4 n rfl)]
     have b5:bg P (orc o.dst) p (jt (wU ⟨some t,p,none⟩) (env k)) (sg k)=some (d,sg k,[]):=by
      rw[bt,Z];refine (Ik a9 b3).2.2 (sg k) (λb off sz hx=>?_);by_cases ad:b<(sg j).length
      ·exact T.PX O (m:=j) (m':=k) (b:=b) (by omega) u ad (λi r bc hw=>by
        rcases uS i q with h | h
        ·rw[H.wr T h] at hw
         grind
        ·exact mO.look T F a9 hx (by omega) (by omega) (λW=>a1 (W.in hC ((hS i h (by omega)).2 bc))) hw)
      ·exfalso;rcases a9 with ⟨x,rfl⟩ | ⟨n,x,rfl⟩
       ·grind [TE]
       grind [TE,bg,nl]
     refine Ix (O o.dst) L.rel hE E b5 _ λv w1 M1 ax R1 hv EV _=>?_;refine ih (listed.setIfInBounds j true) k M1 ax w1 _ (by grind) hk u bv a6 (by omega) ⟨by rw[BY,L.Pd],by rw[HV,L.sf],R1,λS d' v' hc q1 q2=>?_,λi S z' r K hn=>?_,?_⟩
     ·rcases GN q2 with ⟨e,rfl⟩ | ⟨e,q2⟩
      ·grind
      ·exact (a5 S d' v' q1 q2 (λh=>e (by grind)) hc).mono EV
     ·have ad:(sg i).length<(sg k).length:=by
       have h1:(sg (i+1)).length=(sg i).length+1:=by rw[(H.blk T r K).2.2];simp
       have:=T.cn O (m:=i+1) (m':=k) (by omega) u;omega
      obtain ⟨c6,k1,_,k3⟩:=EV.cX _ _ (dB ad);rw[dB ad] at k1;simp only[aw] at k1;rw[k3 (by grind)];exact L.non i S z' r K (λh=>hn ((HD (by omega) i).2 (.inl h)))
     ·exact L.W_.trans EV (T.cn O (by omega) u)
   simp_all
  ·have di:k<=j:=by
    simp_all
   have c7:j=k:=by
    rcases uS k j with h | h
    ·have W:=ch k j (by omega) h (by omega) (by omega);have:=(hS k (by omega) (by omega)).1 (W.ready hC a3);omega
    ·omega
   subst c7;obtain ⟨ao,F⟩:=T.at (i:=j) (by omega);obtain ⟨o',A,G⟩:=T.comp j ao F;rw[ho] at A;simp only[aw] at A;subst A;have a0:=T.step j ao F;have b6:=hg j ao F;have hE:dk (sg j) M Fz w (jt (wU ao) (env j)) a.tmps:=by
    refine ⟨by grind [Lt.Pd,jt],λi d v h1 h2=>?_⟩;rw[oR] at h1;simp only[cu] at h1;obtain ⟨d0,h3,h4⟩:=h1;by_cases ht:(wU ao).contains i=true
    ·rw[if_pos ht] at h4;subst h4;refine L.tmp i d0 v (λm x hm hx hd=>?_) h3 h2;rcases T.pair m j x ao (by omega) hx F with W | W
     ·grind
     ·obtain ⟨h5,_⟩:=fS W;exact absurd (show i∈wU ao by simp_all) (h5 i hd)
    ·rw[if_neg ht] at h4;subst h4;exact .any v
   unfold cO at G;split at G
   ·rename_i g p a8 E;simp only[aw] at G;subst G;simp only at b6;subst b6;have X:=uM (ops:=ops) (o:=o) (g:=none) (b:=true) hE a8 rfl;have Z:bg P (orc o.dst) p (jt (wU ⟨o.dst,p,none⟩) (env j)) (sg j)=bg P (orc o.dst) p (env j) (sg j):=by
     refine wY (lI E) (λx hx=>yF (λn hn=>?_));subst hn;simp only[wU,zC,List.mem_filterMap]
     grind
    simp only[eB,jh,cu] at a0;obtain ⟨⟨d,U1,bV⟩,c8,h⟩:=a0;simp only[ba] at h;obtain ⟨av,a2,bi⟩:=h;subst a2 bi;unfold wpOp;rw[ho];simp only[X,if_true];left;refine Ix (O o.dst) L.rel hE E (by rw[Z];exact c8) _ λv w1 M1 ax R1 hv EV _=>?_;refine ih (listed.setIfInBounds j true) (j+1) M1 ax w1 _ (by grind) (by omega) (by omega) (λi r bw=>?_) a6 (by omega) ⟨by rw[BY,L.Pd,T.zo O (m:=j) (by omega),T.zo O (m:=j+1) (by omega)],by rw[HV,L.sf],R1,λS d' v' hc q1 q2=>?_,λi c9 z' r K hn=>?_,?_⟩
    ·grind [HD]
    ·rw[<-av] at q1;rcases GN q2 with ⟨e,rfl⟩ | ⟨e,q2⟩
     ·rw[e] at q1;simp only[mj,yBu,if_true] at q1
      simp_all
     ·have q3:(env j)[S]? = some d':=by
       rw[<-q1];cases hd:o.dst with
       |none=>rfl
       |some s=>grind [mj,List.getElem?_set_ne]
      refine (L.tmp S d' v' (λi x r hx hd=>?_) q3 q2).mono EV
      grind [HD]
    ·have b7:¬fV listed i:=λh=>hn ((HD (by omega) i).2 (.inl h));have b8:=H.off T r K (by omega) (by omega) (c2 i r b7);have ad:(sg i).length<(sg j).length:=by
      have h1:(sg (i+1)).length=(sg i).length+1:=by rw[(H.blk T r K).2.2];simp
      have:=T.cn O (m:=i+1) (m':=j) (by omega) (by omega);omega
     have b9:(sg j)[(sg i).length]? = some (sg j)[(sg i).length]:=dB ad;obtain ⟨c6,k1,_,k3⟩:=EV.cX _ _ b9;rw[(T.frame O (i:=j) (by omega)).2 _ ad b8,b9] at k1;simp only[aw] at k1;rw[k3 (by simp_all)];exact L.non i c9 z' r K b7
    ·exact L.W_.trans EV (T.cn O (by omega) (by omega))
   simp_all
theorem QL{M:Nat->Option Nat}{Fz:Nat->Prop}{w:World}{a:Act}(O:pC P orc)(T:Tr P orc ops os 0 n0 env sg wrs)(H:mO os q)(hq:q<=n0)(K:∀i j,q<=i->i<j->n0<=j->j<os.length->AR ops i j)
  (hg:∀(i:Nat) x,os[i]? = some x->x.g=none) (v:∀(i j:Nat) x y t,i<q->i<j->os[i]? = some x->os[j]? = some y->x.dst=some t->y.dst≠some t) (z:∀(i j:Nat) x y t,i<q->i<=j->os[i]? = some x->os[j]? = some y->y.dst=some t->t∉wU x)
  (X:∀listed:Array Bool,listed.size=ops.size->Region.ready .any ops listed=[]->∀i,i<ops.size->fV listed i) (R:Rel (sg 0) M Fz w) (E:dk (sg 0) M Fz w (env 0) a.tmps) {Q:Exit->Act->World->Prop}
  (hQ:∀u w' M' Fz',u.defers=a.defers->Rel (sg os.length) M' Fz' w'->dk (sg os.length) M' Fz' w' (env os.length) u.tmps->bQ (sg 0) M Fz w (sg os.length) M' Fz' w'->Q .normal u w') :
  wpAny P .any ops Q ops.size (Array.replicate ops.size false) a w:=by
 have a3:=T.len;have Z:=T.le;have A:∀b,M b≠none->b<(sg 0).length:=λb h=>by
  cases hM:M b with
  |none=>simp_all
  |some c=>exact (R.lt hM).1
 have ad:∀(l:Nat)(listed:Array Bool)(M':Nat->Option Nat)(Fz':Nat->Prop)(w':World)(u:Act),listed.size=ops.size->PN ops.size listed<=l->fC ops (fV listed)->(∀i,fV listed i->i<n0) ->
   Inv os n0 env sg wrs M Fz w a.defers (fV listed) M' Fz' w' u->wpAny P .any ops Q l listed u w':=by
  intro l;induction l with
  |zero=>intro listed M' Fz' w' u L hu W S I;have F:=tz (N:=ops.size) (listed:=listed) (by omega);exact NG O T H hq K hg v z X hQ 0 listed n0 M' Fz' w' u L (cT _) Z (λi _ r=>⟨λh=>S i h,λ_=>F i r⟩) W (by omega) (I.late T O H (λi _ h=>F i (by omega)) hq A)
  |succ l ih=>
   intro listed M' Fz' w' u L hu W S I;by_cases m:∀i,q<=i->i<n0->fV listed i
   ·exact NG O T H hq K hg v z X hQ (l+1) listed n0 M' Fz' w' u L (cT _) Z (λi r _=>⟨λh=>S i h,λh=>m i r h⟩) W hu (I.late T O H m hq A)
   ·refine ⟨λhr=>?_,λj hj=>?_⟩
    ·grind
    ·rw[mem_ready] at hj;obtain ⟨h1,o,ho,ak⟩:=hj;have av:j<ops.size:=(KR.1 ho).1;have af:¬fV listed j:=by
      grind [fV]
     have G:∀o' e,ops[j]? = some o'->e∈o'.after->Region.binds .any e=true->fV listed e.on:=λo' e s he ax=>by rw[ho] at s;simp only[aw] at s;subst s;exact ak e he ax
     have a0:j<n0:=by
      rcases uS j n0 with h | h
      ·exact h
      ·exact absurd (λi r a4=>(K i j r (by omega) h (by omega)).ready W G) m
     refine I.step (S':=fV (listed.setIfInBounds j true)) T O W a0 af G (λi=>HD (by omega) i) _ λa1 w1 M1 a2 I1=>?_;refine ih (listed.setIfInBounds j true) M1 a2 w1 a1 (by grind) ?_ ?_ ?_ I1
     ·have:=Bh (N:=ops.size) (listed:=listed) (k:=j) (by omega) av af;omega
     ·intro i o' e r s he hb;rw[HD (by omega)] at r ⊢;rcases r with r | rfl
      ·exact .inl (W i o' e r s he hb)
      simp_all
     grind [HD]
 have p:∀i,¬fV (Array.replicate ops.size false) i:=λi h=>by grind [fV,iG]
 refine ad ops.size _ M Fz w a (by simp) ?_ (λj o e hj=>absurd hj (p j)) (λi r=>absurd r (p i)) (Inv.start R rfl E (λi _=>⟨λh=>absurd h (p i),λh=>by omega⟩) T O)
 grind [PN]
def vy(g:Nat->Nat)(o:Oper):Oper:={ o with after:=o.after.map λe=>{ e with on:=g e.on } }
structure Perm (ops ops2:Array Oper) (f g:Nat->Nat):Prop where
 size:ops2.size=ops.size
 get:∀i,i<ops.size->ops2[i]? = (ops[f i]?).map (vy g)
 Qx:∀i,i<ops.size->f i<ops.size
 HK:∀i,i<ops.size->g i<ops.size
 fg:∀i,i<ops.size->f (g i)=i
 gf:∀i,i<ops.size->g (f i)=i
 guard:∀(i:Nat) o,ops[i]? = some o->o.guard=none
 on:∀(i:Nat) o e,ops[i]? = some o->e∈o.after->Region.binds .any e=true->e.on<ops.size
theorem Ww{g:Nat->Nat}{o:Oper}{a:Act}{w:World}{K:Act->World->Prop}{Q:Exit->Act->World->Prop}(h:(vy g o).wp P a w K Q∨((vy g o).asks P a w/\LetsOut Q)):o.wp P a w K Q∨(o.asks P a w/\LetsOut Q):=h
theorem yP(l:Array Bool)(i:Nat)(b a:Bool)(h:i<l.size):l.getD i b=l.getD i a:=by simp_all
theorem Dq{ops b:Array Oper}{f g:Nat->Nat}(X:Perm ops b f g):∀(listed a:Array Bool),listed.size=ops.size->a.size=ops.size->(∀i,i<ops.size->a.getD i true=listed.getD (f i) true)->∀j,j∈Region.ready .any ops listed->g j∈Region.ready .any b a:=by intro listed a hs p s j h;rw[mem_ready] at h ⊢;obtain ⟨y,o,r,z⟩:=h;have h:j<ops.size:=(KR.1 r).1;refine ⟨by rw[s _ (X.HK j h),X.fg j h];exact y,vy g o,by rw[X.get _ (X.HK j h),X.fg j h,r];rfl,λe u v=>?_⟩;simp only[vy,Array.mem_map] at u;obtain ⟨x,m,rfl⟩:=u;have l:=X.on j o x r m v;rw[yP _ _ false true (by rw[p];exact X.HK _ l),s _ (X.HK _ l),X.fg _ l,yP _ _ true false (by omega)];exact z x m v
theorem Xm{ops m:Array Oper}{f g:Nat->Nat}(X:Perm ops m f g){Q:Exit->Act->World->Prop}:∀(p:Nat)(listed b:Array Bool)(a:Act)(w:World),listed.size=ops.size->b.size=ops.size->(∀i,i<ops.size->b.getD i true=listed.getD (f i) true) ->
  wpAny P .any m Q p b a w->wpAny P .any ops Q p listed a w:=by
 have x:∀(listed b:Array Bool),listed.size=ops.size->b.size=ops.size->(∀i,i<ops.size->b.getD i true=listed.getD (f i) true)->Region.ready .any ops listed=[]->Region.ready .any m b=[]:=by
  intro listed b hs r u h;cases F:Region.ready .any m b with
  |nil=>rfl
  |cons i l=>
   exfalso;have R:i∈Region.ready .any m b:=by simp_all
   rw[mem_ready] at R;obtain ⟨y,o,s,G⟩:=R;have E:i<ops.size:=by grind
   rw[X.get i E] at s;simp only[cu] at s;obtain ⟨S,z,rfl⟩:=s;have:f i∈Region.ready .any ops listed:=by rw[mem_ready];refine ⟨by simp_all,S,z,λe W T=>?_⟩;have A:=X.on _ S e z W T;have:=G { e with on:=g e.on } (by simp only[vy,Array.mem_map];grind) T;simp only at this;rw[yP _ _ false true (by grind),u _ (X.HK _ A),X.fg _ A,yP _ _ true false (by omega)] at this;omega
   simp_all
 intro p;induction p with
 |zero=>
  intro listed b a w hs r u h;refine ⟨?_,h.2⟩;cases F:Region.ready .any ops listed with
  |nil=>rfl
  |cons j l=>
   have:=Dq X listed b hs r u j (by simp_all);rw[h.1] at this
   simp_all
 |succ p ih=>
  intro listed b a w hs r u h;refine ⟨λF=>h.1 (x listed b hs r u F),λj L=>?_⟩;have N:=Dq X listed b hs r u j L;have:=h.2 (g j) N;rw[mem_ready] at L;obtain ⟨_,o,s,_⟩:=L;have v:j<ops.size:=(KR.1 s).1;have O:m[g j]? = some (vy g o):=by rw[X.get _ (X.HK j v),X.fg j v,s];rfl
  have Z:o.guard=none:=X.guard j o s;refine wpOp_mono (K:=wpAny P .any m Q p (b.setIfInBounds (g j) true)) (λa w hh=>ih _ _ a w (by simp[hs]) (by grind) (λi E=>?_) hh) ?_
  ·have e1:(b.setIfInBounds (g j) true).getD i true=if g j=i then true else b.getD i true:=by
    simp only[Xz,yBa]
    grind
   have e2:(listed.setIfInBounds j true).getD (f i) true=if j=f i then true else listed.getD (f i) true:=by
    simp only[Xz,yBa]
    grind
   rw[e1,e2,u i E];by_cases y:g j=i
   ·rw[if_pos y,if_pos (by rw[<-y,X.fg j v])]
   ·rw[if_neg y,if_neg (λh2=>y (by rw[h2,X.gf i E]))]
  ·unfold wpOp at this ⊢;rw[O] at this;rw[s];have w1:Region.wanted (vy g o) (yielded m a.tmps)=true:=by grind [Go.Region.wanted,vy]
   have w2:Region.wanted o (yielded ops a.tmps)=true:=by grind [Go.Region.wanted]
   simp only[w1,if_true] at this;simp only[w2,if_true]
   grind [Ww]
theorem Jr{ops a:Array Oper}{f g:Nat->Nat}(X:Perm ops a f g){i j:Nat}(h:AR ops i j):AR a (g i) (g j):=by
 have l:∀{j o},ops[j]? = some o->a[g j]? = some (vy g o):=λ{j o} b=>by have r:=(KR.1 b).1;rw[X.get _ (X.HK j r),X.fg j r,b];rfl
 induction h with
 |one b m p s=>exact .one (l b) (by simp only[vy,Array.mem_map];exact ⟨_,m,rfl⟩) (e:={ on:=g _,ground:=_ }) p (by simp_all)
 |more b m p hk _ ih=>exact .more (l b) (by simp only[vy,Array.mem_map];exact ⟨_,m,rfl⟩) (e:={ on:=g _,ground:=_ }) p (by simp_all) ih
def isLt(o:aM):Bool:=match o with
 | ⟨some _,.alloc z,none⟩=>z.all isC
 | ⟨some _,.DR _,none⟩=>true
 | ⟨some _,.load _ _,none⟩=>true
 |_=>false
def isCl(o:aM):Bool:=match o.op with | .call ..=>true | _=>false
def Nc:Nat->Nat->List aM->List Nat->List Nat
 |i, m, o :: os, b :: bs => match isLt o && Nat.beq (Nat.lor b m) m with
  |true=>i::Nc (i+1) (Nat.lor m (2 ^ i)) os bs
  |false=>Nc (i+1) m os bs
 |_,_,_,_=>[]
def permP(hs:List Nat)(n:Nat):List Nat:=hs++(List.range n).filter λi=>hs.all λj=>!Nat.beq j i
def mT(a:List Nat)(os:List aM):List aM:=a.map λi=>os.getD i default
def Kw(a:List Nat)(i:Nat):Nat:=a.getD i 0
def OH(a:List Nat)(i:Nat):Nat:=a.findIdx λj=>Nat.beq j i
def Ub(a:List Nat)(n:Nat):Bool:=Nat.beq a.length n&&(List.range n).all λi=>(Nat.blt (Kw a i) n&&Nat.beq (OH a (Kw a i)) i)&&(Nat.blt (OH a i) n&&Nat.beq (Kw a (OH a i)) i)
def HT(a b:List Nat)(q n0:Nat)(os:List aM):Bool:=
 ((List.range os.length).all λj=>Nat.blt j n0 || (List.range j).all λi=>Nat.blt i q || (a.getD (Kw b j) 0).testBit (Kw b i)) &&
 (((os.take q).all isLt&&os.all (λo=>o.g.isNone)) &&
 (((List.range os.length).all λj=>(List.range j).all λi=>!Nat.blt i q || (match (os.getD i default).dst,(os.getD j default).dst with | some s,some t=>!Nat.beq s t | _,_=>true)) &&
 (((List.range os.length).all λj=>(List.range (j+1)).all λi=>!Nat.blt i q || (match (os.getD j default).dst with | some t=>!(wU (os.getD i default)).contains t | _=>true)) &&
 (Ub b os.length&&(Nat.ble q n0&&Nat.ble n0 os.length)))))
def Ly(a b:List Nat)(is:List dG):Bool:=
 (List.range is.length).all λj=>(List.range j).all λi=>(a.getD (Kw b j) 0).testBit (Kw b i) || apart (is.getD i default) (is.getD j default)
def NH(os:List aM)(a:List Nat):Option (List Nat×Nat×Nat):=
 let hs:=Nc 0 0 os a
 let i:=(os.takeWhile λo=>!isCl o).length
 match hs.any λh=>Nat.blt i h with
 |false=>none
 |true=>
  let b:=permP hs os.length
  let n0:=hs.length+(((mT b os).drop hs.length).takeWhile λo=>!isCl o).length
  match Nat.beq b.length os.length&&HT a b hs.length n0 (mT b os) with
  |true=>some (b,hs.length,n0)
  |false=>none
theorem TN{os:List aM}{a b:List Nat}{q n0:Nat}(h:NH os a=some (b,q,n0)):b.length=os.length/\HT a b q n0 (mT b os)=true:=by
 unfold NH at h;dsimp only at h;split at h
 ·simp at h
 ·split at h
  ·simp only[aw,ba] at h;obtain ⟨rfl,rfl,rfl⟩:=h
   simp_all
  simp_all
theorem Sq (af:P.follows .mixedOrders=true) (O:pC P orc) {id q n0:Nat} {r:List Nat} {ops:Array Oper} {os:List aM} {U U':aq} {M:Nat→Option Nat} {Fz:Nat→Prop} {w:World} {e e':List D} {a:Act} {is:List dG} {Q:Exit→Act→World→Prop}
  (hc:ops.toList.mapM (cO P ops)=some os) (F:yd ops.toList=true) (R:Rel U M Fz w) (E:dk U M Fz w e a.tmps) (h:kH P orc n0 (mT r os) e U=some (e',U',is)) (bi:r.length=os.length)
  (ak:HT (LN ops.toList) r q n0 (mT r os)=true) (a6:Ly (LN ops.toList) r is=true)
  (hQ:∀a' w' M' Fz',a'.defers=a.defers→Rel U' M' Fz' w'→dk U' M' Fz' w' e' a'.tmps→bQ U M Fz w U' M' Fz' w'→Q .normal a' w'):(Code.region id ops true).wp P Q a w:=by
 obtain ⟨h1,h2⟩:=Oo hc
 have av:os.length=ops.size:=by omega
 have ax:(mT r os).length=os.length:=by grind [mT]
 simp only [HT,bJ] at ak
 obtain ⟨c2,⟨c3,c4⟩,c5,c6,c7,c8,c9⟩:=ak
 have c8:=DM c8
 have c9:=DM c9
 simp only [Ub,bJ,gH,List.mem_range] at c7
 have pm:=c7.2
 rw [ax,av] at pm
 have Qx:∀i,i<ops.size→Kw r i<ops.size:=fun i u=>yh.mp (pm i u).1.1
 have HK:∀i,i<ops.size→OH r i<ops.size:=fun i u=>yh.mp (pm i u).2.1
 have fg:∀i,i<ops.size→Kw r (OH r i)=i:=fun i u=>cY (pm i u).2.2
 have gf:∀i,i<ops.size→OH r (Kw r i)=i:=fun i u=>cY (pm i u).1.2
 have K:∀i,i<ops.size→(mT r os)[i]? = os[Kw r i]?:=fun i u=>by
  grind [Kw,mT]
 generalize bd:mT r os=v at h ax K c2 c3 c4 c5 c6 c9
 obtain ⟨env,sg,wrs,k1,k2,k3,k4,k5,k6,k7⟩:=NA (n:=n0) v n0 e e' U U' is h
 subst k1 k2 k3 k4
 have c1:=a6
 unfold Ly at c1
 have a0:∀(i:Nat) x,v[i]? = some x→x.g=none:=fun i x L=>by
  have:=gH.1 c4 x (yl L)
  simpa using this
 have S:∀(i:Nat) o,ops[i]? = some o→o.guard=none:=fun i o N=>by
  have a1:=(KR.1 N).1
  have L:v[OH r i]? = some os[i]:=by grind
  obtain ⟨o',W,z⟩:=h2 i _ (dB (by omega))
  rw [OY,N] at W
  simp only [aw] at W
  subst W
  have Z:=a0 _ _ L
  unfold cO at z
  split at z
  ·rename_i g ao hg _
   simp only [aw] at z
   rw [←z] at Z
   simp only at Z
   subst Z
   cases hq:o.guard with
   | none=>rfl
   | some p =>
    obtain ⟨j,be⟩:=p
    rw [hq] at hg
    simp only [yL] at hg
    split at hg <;> simp at hg
  grind
 let s:Array Oper:=Array.ofFn fun i:Fin ops.size=>vy (OH r) (ops[Kw r i]'(Qx i i.isLt))
 have a7:s.size=ops.size:=by simp [s]
 have a2:∀i,i<ops.size→s[i]? = (ops[Kw r i]?).map (vy (OH r)):=fun i u=>by
  rw [tc (by omega),tc (Qx i u)]
  simp [s]
 have X:Perm ops s (Kw r) (OH r):=⟨a7,a2,Qx,HK,fg,gf,S,fun i o e N he hb=>by
  have:=tO F i o e N he hb
  grind⟩
 have T:Tr P orc s v 0 n0 env sg wrs:={
  len:=by omega
  comp:=fun j ao hj=>by
   have bt:=(jy.1 hj).1
   rw [K j (by omega)] at hj
   obtain ⟨o,N,z⟩:=h2 _ ao hj
   rw [OY] at N
   refine ⟨vy (OH r) o,by grind,?_⟩
   unfold cO at z ⊢
   have e1:yL ops o.guard=some none:=by rw [S _ o N]; rfl
   have e2:yL s (vy (OH r) o).guard=some none:=by
    show yL s o.guard=some none
    rw [S _ o N]; rfl
   rw [e1] at z
   rw [e2]
   exact z
  step:=fun i ao u=>(k6 i ao u).1
  wrk:=fun i u=>k7 i (by omega) u
  le:=by omega
  pair:=fun i j x y ad L hy=>by
   have hj:=(jy.1 hy).1
   have G:=gH.1 c1 j (by grind)
   have A:=gH.1 G i (by grind)
   simp only [dW] at A
   rcases A with A | A
   ·left
    have:=Jr X (Bn A)
    grind
   grind
  lead:=fun i u=>by omega
  ple:=by omega }
 have H:mO v q:=fun i u=>by
  have a1:i<v.length:=by omega
  have:=gH.1 c3 (v[i]) (by
   rw [yB1]
   exact ⟨i,by grind⟩)
  rw [dB a1]
  generalize v[i]=x at this
  unfold isLt at this
  split at this
  ·grind
  ·grind
  ·grind
  grind
 refine wp_region_any af ?_
 have R1:Rel (sg 0) M Fz { w with drawn:=w.drawn+1 }:=R.heap rfl ⟨rfl,rfl,rfl⟩
 have EH:bQ (sg 0) M Fz w (sg 0) M Fz { w with drawn:=w.drawn+1 }:=bQ.heap R rfl ⟨rfl,rfl,rfl⟩
 have bh:=QL (Q:=Q) O T H (by omega) (fun i j bu ad bv hj=>by
   have G:=gH.1 c2 j (by grind)
   simp only [dW] at G
   rcases G with G | G
   ·grind [Nat.blt_eq]
   ·have A:=gH.1 G i (by grind)
    simp only [dW] at A
    rcases A with A | A
    ·grind [Nat.blt_eq]
    ·have:=Jr X (Bn A)
     grind) a0
  (fun i j x y t u ad L hy hd a8=>by
   have hj:=(jy.1 hy).1
   have G:=gH.1 c5 j (by grind)
   have A:=gH.1 G i (by grind)
   simp only [yBD,L,hy,Option.getD_some,hd,a8,yh.mpr u,Nat.beq_refl] at A
   grind)
  (fun i j x y t u ad L hy hd hm=>by
   have hj:=(jy.1 hy).1
   have G:=gH.1 c6 j (by grind)
   have A:=gH.1 G i (by grind)
   have a9:(wU x).contains t=true:=by grind
   simp only [yBD,L,hy,Option.getD_some,hd,yh.mpr u,a9] at A
   grind)
  (fun m bw hr i u=>by
   let b:Array Bool:=Array.ofFn fun i:Fin ops.size=>m.getD (OH r i) true
   have a3:b.size=ops.size:=by simp [b]
   have b0:∀i,i<ops.size→b.getD i true=m.getD (OH r i) true:=fun i u=>by
    rw [Xz,tc (by omega)]
    simp [b]
   have a4:∀i,i<ops.size→m.getD i true=b.getD (Kw r i) true:=fun i u=>by grind
   have bc:Region.ready .any ops b=[]:=by
    cases hq:Region.ready .any ops b with
    | nil=>rfl
    | cons j l =>
     have:=Dq X b m a3 (by omega) a4 j (by grind)
     grind
   have a5:=wu a3 (tO F) bc
   have:=a5 (Kw r i) (Qx i (by omega))
   unfold fV at this ⊢
   grind)
  R1 (E.mono EH) (fun a' w' M' Fz' hd R' E' EV=>hQ a' w' M' Fz' hd R' E' (EH.trans EV (cT _)))
 exact Xm X ops.size (Array.replicate ops.size false) (Array.replicate ops.size false) a _ (by simp) (by simp) (fun i u=>by
  rw [Xz,Xz,yBK,yBK,if_pos (by omega),if_pos (Qx i u)]) (by grind)
theorem Sem.drwG{nn q n0:Nat}{x:List Nat}{al:AL}{U:aq}{Q:qd->AL->aq->Prop}{os:List aM}{k:Nat}{s:List Nat}{p:Nat}(u:P.follows .mixedOrders=true)(O:pC P orc)(W:NH os s=some (x,q,n0))
  (h:dq P orc n0 (mT x os) nn al U λal' U' is=>Ly s x is=true/\Q .normal al' U'):Sem P (.FA os s k p) nn al U Q:=by
 obtain ⟨al1,U1,is,h,X,Z⟩:=h;obtain ⟨z,E⟩:=TN W;intro c j M Fz w a K R A hK;obtain ⟨e',G,h2⟩:=h _ A.eE.2;cases c with
 |region id ops L=>
  simp only[cZ] at j;split at j
  ·rename_i ad F;split at j
   ·rename_i hd;subst hd;split at j
    ·rename_i hb;simp only[aw,br.FA.injEq] at j;obtain ⟨rfl,rfl,_,_⟩:=j;refine Sq u O F hb R A.eE.1 G z E X λa' w' M' Fz' hd R' E' EV=>?_;exact hK .normal al1 U1 a' w' M' Fz' Z hd R' (fU.Zc E' h2) EV (Cm O _ _ _ _ _ _ _ G).1
    simp_all
   simp_all
  simp_all
 |seq a b=>grind [cZ]
 |cond o a b=>grind [cZ]
 |block i b=>simp[cZ] at j
 |loop b=>simp[cZ] at j
 |scope b=>grind [cZ,Option.map_eq_some_iff,YP]
 |_=>grind [cZ]
end
end Go.Abs
end
section
namespace Go.Abs
variable[Gl]
inductive CC where
 |int (k:IntKind)
 |bool
 |str
 |sl (i:Nat)
 |fk (gs:List Nat)
 deriving DecidableEq,Inhabited
@[reducible] def CC.den(T:Nat->Type):CC->Type
 |.int _=>Int
 |.bool=>Bool
 |.str=>ByteArray
 |.sl i=>List (T i)
 |.fk _=>Nat
@[reducible] def Xd(T:Nat->Type):List CC->Type
 |[]=>Unit
 |c::a=>c.den T×Xd T a
def okL(i:Nat):List CC->Bool
 |[]=>true
 |.sl j::l=>Nat.blt j i&&okL i l
 |_::l=>okL i l
theorem Ab{i j:Nat}:∀{l:List CC},okL i l=true->CC.sl j∈l->j<i:=by
 intro l;induction l with
 |nil=>intro _ h;simp at h
 |cons c l ih=>
  intro e h;cases c <;> simp only[okL,bJ,me,reduceCtorEq,false_or,CC.sl.injEq] at e h
  case sl=>rcases h with rfl | h;exact yh.mp e.1;exact ih e.2 h
  all_goals exact ih e h
class Ty where
 T:Nat->Type
 fl:Nat->List CC
 Zv:∀i,T i->Xd T (fl i)
 Za:∀i,Xd T (fl i)->T i
 mp:∀i a,Za i (Zv i a)=a
 pm:∀i x,Zv i (Za i x)=x
 dn:∀i j,CC.sl j∈fl i->j<i
 ps:∀i,0<(fl i).length
section
variable[Y:Ty]
abbrev TT(i:Nat):Type:=Y.T i
abbrev CC.dn(c:CC):Type:=c.den Y.T
abbrev aT(cs:List CC):Type:=Xd Y.T cs
abbrev aA(i:Nat):Nat:=(Y.fl i).length
def qS(rec:(j:Nat)->TT j->List C):(c:CC)->c.dn->C
 |.int k,n=>.lit (.int k n)
 |.bool,b=>.lit (.bool b)
 |.str,s=>.lit (.string s)
 |.sl j,l=>.cU false (l.map (rec j))
 |.fk _,g=>.fn (.func g) [] []
def lN(rec:(j:Nat)->TT j->List C):(cs:List CC)->aT cs->List C
 |[],_=>[]
 |c::cs,x=>qS rec c x.1::lN rec cs x.2
def JB:Nat->(i:Nat)->TT i->List C
 |0,_,_=>[]
 |k+1,i,a=>lN (JB k) (Y.fl i) (Y.Zv i a)
def enc(i:Nat)(a:TT i):List C:=JB (i+1) i a
theorem Dp{a b:(j:Nat)->TT j->List C}:∀(cs:List CC)(x:aT cs),(∀j,CC.sl j∈cs->a j=b j)->lN a cs x=lN b cs x:=by
 intro cs;induction cs with
 |nil=>intro x _;rfl
 |cons c cs ih=>
  intro x h;simp only[lN];rw[ih x.2 λj i=>h j (pG _ i)];congr 1;cases c with
  |sl j=>grind [qS]
  |_=>rfl
theorem Tm:∀(k i:Nat),i<k->JB (Y:=Y) k i=enc i:=by
 intro k;induction k using Nat.strongRecOn with
 |_ k ih=>
  intro i l;funext a;cases k with
  |zero=>omega
  |succ k=>
   simp only[enc,JB];refine Dp _ _ λj b=>?_;have h:=Y.dn i j b
   grind
theorem tt(i:Nat)(a:TT i):enc i a=lN enc (Y.fl i) (Y.Zv i a):=by show lN (JB i) (Y.fl i) (Y.Zv i a)=_;exact Dp _ _ λj b=>Tm i j (Y.dn i j b)
theorem Td{r:(j:Nat)->TT j->List C}:∀(cs:List CC)(x:aT cs),(lN r cs x).length=cs.length:=by
 intro cs;induction cs with
 |nil=>intro x;rfl
 |cons c cs ih=>grind [lN]
theorem uG(i:Nat)(a:TT i):(enc i a).length=aA i:=by rw[tt,Td]
theorem Kv{r:(j:Nat)->TT j->List C}{c:CC}(i:∀j,c=.sl j->∀a b,r j a=r j b->a=b){a b:c.dn}(h:qS r c a=qS r c b):a=b:=by
 cases c with
 |int k=>grind [qS]
 |bool=>grind [qS]
 |str=>grind [qS]
 |sl j=>simp only[qS,C.cU.injEq,true_and] at h;exact map_inj (λ{a b}=>i j rfl a b) h
 |fk l=>simpa[qS] using h
theorem UD{r:(j:Nat)->TT j->List C}:∀{cs:List CC},(∀j,CC.sl j∈cs->∀a b,r j a=r j b->a=b)->∀{x y:aT cs},lN r cs x=lN r cs y->x=y:=by
 intro cs;induction cs with
 |nil=>simp_all
 |cons c cs ih=>grind [lN,Kv]
theorem GK:∀(i:Nat)(a b:TT i),enc i a=enc i b->a=b:=by
 intro i;induction i using Nat.strongRecOn with
 |_ i ih=>intro a b h;rw[tt,tt] at h;have:=UD (λj l=>ih j (Y.dn i j l)) h;rw[<-Y.mp i a,<-Y.mp i b,this]
inductive CV where
 |d (x:D)
 |b (e:Bool)
 |sl (i:Nat) (l:List (TT i))
def CV.er:CV->D
 |.d x=>x
 |.b e=>B e
 |.sl i l=>.c (.cU false (l.map (enc i)))
def CV.low(m:Nat):CV->Bool
 |.d x=>x.low m
 |_=>true
inductive TC where
 |any
 |d (x:D)
 |b (e:Bool)
 |sl (i:Nat) (l:List (TT i))
 |own (i b v n:Nat)
 |fp (i:Nat) (a:TT i) (off:Nat)
 |op (i b v n:Nat) (k:Int) (a:TT i) (off:Nat)
 |ap (b off len sz:Nat) (k:Int)
 |os (i b v n lo len:Nat)
 |fl (n:Int)
 |cx (x y:Int)
 |DQ (g:FuncId) (xs:List CV)
def TC.er:TC->D
 |.any=>.any
 |.d x=>x
 |.b e=>B e
 |.sl i l=>.c (.cU false (l.map (enc i)))
 |.own i c _ n=>OS (aA i) c n
 |.fp i a off=>.c (.cA (enc i a) off)
 |.op i c _ n k _ off=>.ptr c (k.toNat * aA i+off) (n * aA i)
 |.ap c off _ sz k=>.ptr c (off+k.toNat * 1) sz
 |.os i c _ n j len=>.sl c (0+j * aA i) len (aA i) (n * aA i)
 |.fl n=>.c (.lit (.float .f64 (Fl.fl n)))
 |.cx x y=>.c (.lit (.complex .f64 (Fl.fl x) (Fl.fl y)))
 |.DQ g o=>.fn (.func g) [.agg (o.map CV.er)] []
def RC(x:TC)(d:D):Prop:=x=.any∨d=x.er
inductive TV where
 |c (x:TC)
 |agg (xs:List TC)
 |aT (xs:List (Bool×List TC))
inductive aH {α β:Type} (R:α->β->Prop):List α->List β->Prop where
 |nil:aH R [] []
 |cons {a:α} {b:β} {l:List α} {m:List β} (h:R a b) (r:aH R l m):aH R (a::l) (b::m)
def RE(p:Bool×List TC)(d:D):Prop:=
 match p with
 |(true,xs)=>∃ds,d=.agg ds/\aH RC xs ds
 |(false,xs)=>∃x,xs=[x]/\RC x d
def RT:TV->D->Prop
 |.c x,d=>RC x d
 |.agg xs,d=>∃ds,d=.agg ds/\aH RC xs ds
 |.aT xs,d=>∃ds,d=.aT ds/\aH RE xs ds
inductive RV where
 |v (x:TV)
 |g (c want:Bool) (p:Nat) (x:TV)
def RR:RV->D->Prop
 |.v x,d=>RT x d
 |.g c want _ x,d=>if c=want then RT x d else d=.aT []
inductive TB where
 |cells (w:Nat) (cs:List (Nat×TC))
 |row (i:Nat) (l:List (TT i)) (lv cv:Nat)
 |mp (j:Nat) (st:Bool) (l:List (Int×TT j)) (v:Nat)
def Jx(j:Nat)(st:Bool)(a:TT j):D:=if st then .agg ((enc j a).map .c) else .c ((enc j a).headD (.lit undef))
def TB.er:TB->Ob
 |.cells _ o=>.cells (o.map λp=>p.2.er)
 |.row i l _ _=>OB (enc i) l
 |.mp j st l _=>MB (Jx j st) l
def RB(blk:TB)(ob:Ob):Prop:=ob=blk.er
abbrev TH:=List TB
abbrev TA:=List (Nat×RV)
def OW(t:Nat):TA->Option RV
 |[]=>none
 |(s,x)::al=>match Nat.beq s t with | true=>some x | false=>OW t al
def dV(t:Nat):TA->Option (RV×Nat)
 |[]=>none
 |(s,x)::al=>match Nat.beq s t with | true=>some (x,al.length) | false=>dV t al
def xf:(c:CC)->c.dn->TC
 |.int k,n=>.d (.c (.lit (.int k n)))
 |.bool,b=>.b b
 |.str,s=>.d (.c (.lit (.string s)))
 |.sl j,l=>.sl j l
 |.fk _,g=>.d (.c (.fn (.func g) [] []))
def zh:(cs:List CC)->aT cs->List TC
 |[],_=>[]
 |c::cs,x=>xf c x.1::zh cs x.2
def exp(i:Nat)(a:TT i):List TC:=zh (Y.fl i) (Y.Zv i a)
theorem kU(c:CC)(a:c.dn):(xf c a).er=.c (qS enc c a):=by cases c <;> rfl
theorem Wc:∀(cs:List CC)(x:aT cs),(zh cs x).map TC.er=(lN enc cs x).map .c:=by
 intro cs;induction cs with
 |nil=>intro x;rfl
 |cons c cs ih=>grind [zh,lN,kU]
theorem zx(i:Nat)(a:TT i):(exp i a).map TC.er=(enc i a).map .c:=by rw[exp,Wc,tt]
theorem aH.er:∀(i:List TC),aH RC i (i.map TC.er):=by
 intro i;induction i with
 |nil=>exact .nil
 |cons x i ih=>exact .cons (.inr rfl) ih
theorem aH.eq:∀{i:List TC}{ds:List D},aH RC i ds->(∀y∈i,y≠.any)->ds=i.map TC.er:=by
 intro i ds h;induction h with
 |nil=>simp_all
 |cons h r ih=>
  intro j;rcases h with h | h
  ·simp_all
  simp_all
theorem aH.len{α i:Type}{R:α->i->Prop}{l:List α}{m:List i}(h:aH R l m):l.length=m.length:=by
 induction h with
 |nil=>rfl
 |cons _ _ ih=>simp[ih]
theorem aH.get{α j:Type}{R:α->j->Prop}{l:List α}{m:List j}(h:aH R l m):∀(i:Nat) a,l[i]? = some a->∃b,m[i]? = some b/\R a b:=by
 induction h with
 |nil=>simp_all
 |cons h _ ih=>grind
theorem aH.get'{α j:Type}{R:α->j->Prop}{l:List α}{m:List j}(h:aH R l m):∀(i:Nat) b,m[i]? = some b->∃a,l[i]? = some a/\R a b:=by
 induction h with
 |nil=>simp_all
 |cons h _ ih=>grind
theorem aH.SD{α i:Type}{R:α->i->Prop}{l j:List α}{m m':List i}(h:aH R l m)(o:aH R j m'):aH R (l++j) (m++m'):=by
 induction h with
 |nil=>exact o
 |cons h _ ih=>exact .cons h ih
theorem aH.take{α i:Type}{R:α->i->Prop}{l:List α}{m:List i}(h:aH R l m):∀n:Nat,aH R (l.take n) (m.take n):=by
 induction h with
 |nil=>intro n;simp;exact .nil
 |cons h _ ih=>
  intro n;cases n with
  |zero=>exact .nil
  |succ n=>exact .cons h (ih n)
theorem aH.drop{α i:Type}{R:α->i->Prop}{l:List α}{m:List i}(h:aH R l m):∀n:Nat,aH R (l.drop n) (m.drop n):=by
 induction h with
 |nil=>intro n;simp;exact .nil
 |cons h r ih=>
  intro n;cases n with
  |zero=>exact .cons h r
  |succ n=>grind
def gR{i j:Nat}(l:List (TT j)):Option (List (TT i)):=match decEq j i with | .isTrue h=>some (h▸l) | .isFalse _=>none
theorem OX{i j:Nat}{l:List (TT j)}{m:List (TT i)}(h:gR l=some m):∃e:j=i,m=e▸l:=by
 unfold gR at h;split at h
 ·simp_all
 simp_all
def EC:(c:CC)->TC->Option c.dn
 |.int k,.d (.c (.lit (.int a n)))=>match decEq a k with | .isTrue _=>some n | .isFalse _=>none
 |.bool,.b e=>some e
 |.bool,.d (.c (.lit (.bool e)))=>some e
 |.str,.d (.c (.lit (.string s)))=>some s
 |.sl _,.sl _ l=>gR l
 |.sl _,.d (.c (.lit (.slice none 0 0)))=>some []
 |.fk _,.d (.c (.fn (.func g) [] []))=>some g
 |_,_=>none
def Et:(cs:List CC)->List TC->Option (aT cs)
 |[],[]=>some ()
 |c :: cs, x :: xs => match EC c x, Et cs xs with
  |some a,some b=>some (a,b)
  |_,_=>none
 |_,_=>none
theorem nZ{c:CC}{x:TC}{a:c.dn}(h:EC c x=some a):x≠.any/\vM x.er=.c (qS enc c a):=by
 unfold EC at h;split at h
 ·split at h
  ·rename_i e _;subst e;simp only[aw] at h;subst h;exact ⟨by simp,rfl⟩
  simp_all
 ·simp only[aw] at h;subst h;exact ⟨by simp,rfl⟩
 ·simp only[aw] at h;subst h;exact ⟨by simp,rfl⟩
 ·simp only[aw] at h;subst h;exact ⟨by simp,rfl⟩
 ·obtain ⟨rfl,rfl⟩:=OX h;exact ⟨by simp,rfl⟩
 ·simp only[aw] at h;subst h;exact ⟨by simp,rfl⟩
 ·simp only[aw] at h;subst h;exact ⟨by simp,rfl⟩
 ·simp at h
theorem Lg{c:CC}{x:TC}{a:c.dn}(h:EC c x=some a):x=.d (.c (.lit (.slice none 0 0)))∨x.er=.c (qS enc c a):=by
 unfold EC at h;split at h
 ·split at h
  ·rename_i e _;subst e;simp only[aw] at h;subst h;exact .inr rfl
  simp_all
 ·simp only[aw] at h;subst h;exact .inr rfl
 ·simp only[aw] at h;subst h;exact .inr rfl
 ·simp only[aw] at h;subst h;exact .inr rfl
 ·obtain ⟨rfl,rfl⟩:=OX h;exact .inr rfl
 ·exact .inl rfl
 ·simp only[aw] at h;subst h;exact .inr rfl
 ·simp at h
theorem MV:∀{cs:List CC}{b:List TC}{a:aT cs},Et cs b=some a->(∀y∈b,y≠.any)/\(b.map TC.er).map vM=(lN enc cs a).map .c:=by
 intro cs;induction cs with
 |nil=>
  intro b a h;cases b with
  |nil=>exact ⟨by simp,rfl⟩
  |cons x b=>grind [Et]
 |cons c cs ih=>
  intro b a h;cases b with
  |nil=>grind [Et]
  |cons x b=>grind [Et,nZ,lN]
inductive cR where
 |c (x:CC)
 |st (i:Nat)
 |fp (i:Nat)
 |k (g:Nat)
@[reducible] def cR.dn:cR->Type
 |.c x=>x.dn
 |.st i=>TT i
 |.fp i=>TT i
 |.k _=>Unit
def cR.enc:(c:cR)->c.dn->D
 |.c x,a=>.c (qS Go.Abs.enc x a)
 |.st i,a=>ST (Go.Abs.enc i a)
 |.fp i,a=>.c (.cA (Go.Abs.enc i a) 0)
 |.k x,_=>.c (.fn (.func x) [] [])
def cR.tv:(c:cR)->c.dn->TV
 |.c x,a=>.c (xf x a)
 |.st i,a=>.agg (exp i a)
 |.fp i,a=>.c (.fp i a 0)
 |.k x,_=>.c (.d (.c (.fn (.func x) [] [])))
theorem cR.Tv(c:cR)(a:c.dn):RT (c.tv a) (c.enc a):=by
 cases c with
 |c x=>exact .inr (kU x a).symm
 |st i=>exact ⟨_,rfl,by rw[<-zx];exact aH.er _⟩
 |fp i=>exact .inr rfl
 |k x=>exact .inr rfl
@[reducible] def rU:List cR->Type
 |[]=>Unit
 |c::a=>c.dn×rU a
def tn:(cs:List cR)->rU cs->List D
 |[],_=>[]
 |c::cs,x=>c.enc x.1::tn cs x.2
def tvV:(cs:List cR)->rU cs->List TV
 |[],_=>[]
 |c::cs,x=>c.tv x.1::tvV cs x.2
@[reducible] def kT:List cR->Type
 |[]=>Unit
 |[c]=>c.dn
 |c::d::a=>c.dn×kT (d::a)
def AO(i:Nat):TV->Option (TT i)
 |.c (.fp j a 0)=>match decEq j i with | .isTrue h=>some (h▸a) | .isFalse _=>none
 |_=>none
def MP(g:Nat):TV->Option Unit
 |.c (.d (.c (.fn (.func a) [] [])))=>match Nat.beq a g with | true=>some () | false=>none
 |_=>none
def Gr(x:CC):TV->Option x.dn
 |.c y=>EC x y
 |_=>none
def Ee(i:Nat):TV->Option (TT i)
 |.agg a=>match Et (Y.fl i) a with | some x=>some (Y.Za i x) | none=>none
 |_=>none
def qF:(c:cR)->TV->Option c.dn
 |.c x,v=>Gr x v
 |.st i,v=>Ee i v
 |.fp i,v=>AO i v
 |.k g,v=>MP g v
end
end Go.Abs
end
