/- DfwPl, DfwPm, DfwPn, DfwPo, DfwPq, DfwPs, DfwPt, DfwRl, DfwPu, DfwPv, DfwPz -/
import Derived.Test.YtidhdalhpjapaaaGreatDoorFwE
import Derived.Test.YtidhdalhpjapaaaGreatDoorFwB
set_option linter.all false
section
namespace Go.Abs
noncomputable section
variable[Gl][Y:Ty]
def vc{R:Type}(al:TA)(U:TH)(K:KC R)(r:R):qd->AL->aq->Prop:=λx b d=>∃a e,Ref a e b d/\(∃pre,a=pre++al)/\Ext U e/\K x a e=some r
theorem oJ{hs:List (Nat×Nat)}{md:List Nat}{al pre:TA}{U:TH}(h:Gv hs md al U (pre++al)=true):∀y∈pre,y.1∈md∨∃b i l a d,(y.1,b)∈hs/\U[b]? = some (.row i l a d):=by
 intro y f;unfold Gv at h;rw[Gh,Nat.add_sub_cancel,List.take_left,gH] at h;have:=h y f;rw[dW,List.any_eq_true,List.any_eq_true] at this;rcases this with ⟨z,g,e⟩ | ⟨z,g,e⟩
 ·simp_all
 ·simp only[bJ] at e
  grind [Nat.eq_of_beq_eq_true,rowAt]
theorem qb{h:JH}{md:List Nat}{al a:TA}{U U1:TH}{x:qc h.pl}(e:KT h md al U a U1=some x):Gv h.hs md al U a=true/\dI (h.pl++LU h.zs) 0 U U1=true/\UU a U1 h.hs=true/\SP U.length U1 h.zs=true/\Jh a U1 h.pl=some x:=by
 unfold KT at e
 grind
theorem ye{U U2:TH}(q:Ext U U2)(t:U2.length=U.length){b i d f:Nat}{l:List (TT i)}(h:U2[b]? = some (.row i l d f)):∃i l d f,U[b]? = some (.row i l d f):=by
 have a:b<U.length:=by grind
 obtain ⟨o,k,g⟩:=q b _ (dB a);rw[h] at k;simp only[aw] at k;subst k;have r:U[b]? = some U[b]:=dB a;rw[r];cases p:U[b] with
 |row i l d f=>simp_all
 |cells w u=>rw[p] at g;obtain ⟨_,_,e,_⟩:=g;simp at e
 |mp j st l v=>rw[p] at g;obtain ⟨_,_,_,_,e,_⟩:=g;simp at e
theorem tV(h:JH)(md:List Nat)(al:TA)(U:TH)(x:qc h.pl):∃pre,fx h md al U x=pre++al/\∀y∈pre,(∃c,Pl.r y.1 c∈h.pl)∨(∃b i l g j,(y.1,b)∈h.hs/\(cH h md al U x)[b]? = some (.row i l g j))∨y.1∈md:=by
 obtain ⟨d,t,o,_⟩:=FF md al;obtain ⟨e,u,k,_⟩:=Jc (qy h.pl x U) h.hs (EG md al);obtain ⟨f,v,p⟩:=FN h.pl x (Lr (qy h.pl x U) h.hs (EG md al));refine ⟨f++(e++d),by grind [fx],λy a=>?_⟩;rcases zC.1 a with a | a
 ·grind
 ·rcases zC.1 a with a | a
  ·obtain ⟨b,i,l,g,j,q,r,_⟩:=k y a;exact .inr (.inl ⟨b,i,l,g,j,q,((Kc h.zs (qy h.pl x U)).row b _ _ _ _).1 r⟩)
  grind
theorem Di{h:JH}{md:List Nat}{al:TA}{U:TH}{x:qc h.pl}(f:Ext U (cH h md al U x))(g:(cH h md al U x).length=U.length){t:Nat}{q:RV×Nat}(j:t∉md)(k:∀c,Pl.r t c∉h.pl)
  (o:∀b,(t,b)∈h.hs->∀i l a d,U[b]?≠some (.row i l a d)) (p:dV t al=some q):dV t (fx h md al U x)=some q:=by
 obtain ⟨pre,e,r⟩:=tV h md al U x
 grind [oZ,ye]
theorem Sem.ownC{P:Program}{n:Nat}{ac:br}{Q:qd->AL->aq->Prop}{al:AL}{U:aq}(b j aA:Nat)(cs:List D)(hb:U[b]? = some (.cells cs))(hj:cs[j]? = some (.c (.lit (.slice none 0 0))))(h:Sem P ac n al (U.set b (.cells (cs.set j (.sl U.length 0 0 aA 0)))++[.cells []]) Q):Sem P ac n al U Q:=by
 intro c hc M Fz w a K R A hK;have ax:=(jy.1 hb).1;have at':∀(i:Nat) E,U[i]? = some E->∃G,(U.set b (.cells (cs.set j (.sl U.length 0 0 aA 0)))++[.cells []])[i]? = some G/\G.sz=E.sz:=λi E hi=>by
  have ad:=(jy.1 hi).1;rw[Ie (by simp_all)];by_cases e:i=b
  ·grind [Ob.sz]
  grind
 have z:∀{d v},V U M Fz w d v->V (U.set b (.cells (cs.set j (.sl U.length 0 0 aA 0)))++[.cells []]) M Fz w d v:=λh=>h.sub at' (λ_ _ h=>h) (λc h=>⟨h,rfl⟩) (λc u T fr h=>⟨u,h,rfl⟩);have a0:∀{E o},cf U M Fz w E o->cf (U.set b (.cells (cs.set j (.sl U.length 0 0 aA 0)))++[.cells []]) M Fz w E o:=λ{E o} W=>by
  cases E with
  |cells cs=>obtain ⟨u,T,Z,hl,O⟩:=W;exact ⟨u,T,Z,hl,λi d v x y=>⟨z (O i d v x y).1,(O i d v x y).2⟩⟩
  |map es af=>obtain ⟨u,Z,hl,O⟩:=W;exact ⟨u,Z,hl,λi k d n e x y=>let ⟨p,q,r⟩:=O i k d n e x y;⟨p,q,z r⟩⟩
  |gone n=>exact W.elim
 have R1:Rel (U.set b (.cells (cs.set j (.sl U.length 0 0 aA 0)))++[.cells []]) M Fz w:=by
  refine ⟨λb' c h=>?_,R.inj,R.fz,R.gl⟩;obtain ⟨h1,E,o,L,h3,W⟩:=R.blk b' c h;have ad:=(jy.1 L).1;by_cases e:b'=b
  ·subst e;rw[hb] at L;simp only[aw] at L;subst L;refine ⟨h1,_,o,by rw[Ie (by simp_all)];exact Gu hb,h3,?_⟩;obtain ⟨u,T,Z,hl,O⟩:=W;refine ⟨u,T,Z,by simp_all,λi d v x y=>?_⟩;by_cases ej:j=i
   ·subst ej;rw[yBu,if_pos rfl] at x;split at x
    ·simp only[aw] at x;subst x;obtain ⟨v1,v2⟩:=O j _ v hj y;refine ⟨?_,v2⟩;rw[v1.cC];exact .sl none 0 0 (by simp) (.cells []) (by simp_all) (by omega) (λ_=>.inl ⟨rfl,rfl,rfl,rfl,rfl,rfl⟩)
    simp_all
   grind
  grind
 have E1:bQ U M Fz w (U.set b (.cells (cs.set j (.sl U.length 0 0 aA 0)))++[.cells []]) M Fz w:={
  size:=cT _
  frame:=λ_ _ _=>rfl
  oA:=λb c h=>.inl ⟨b,h⟩
  fz:=λc h=>⟨h,rfl⟩
  rS:=λc h=>.inl h
  sa:=λc u T fr h=>⟨u,h,rfl⟩
  cX:=λb E h=>let ⟨G,h1,L⟩:=at' b E h;⟨G,h1,Nat.le_of_eq L.symm,λ_=>rfl⟩
  out:=⟨rfl,rfl,rfl⟩ }
 have A1:fU n (U.set b (.cells (cs.set j (.sl U.length 0 0 aA 0)))++[.cells []]) M Fz w al a.tmps:=⟨A.1,λs d hs=>let ⟨v,h1,L⟩:=A.2 s d hs;⟨v,h1,z L⟩⟩;exact h c hc M Fz w a K R1 A1 λx ak U' a' w' M' av hQ hd R' A' E' hl=>hK x ak U' a' w' M' av hQ hd R' A' (E1.trans E' (by simp)) (by grind)
theorem Nq{P:Program}{n:Nat}{ac:br}{Q:qd->AL->aq->Prop}:∀(L:List (Nat×Nat))(al f:TA)(U U':TH)(alD:AL)(σD:aq),Hw L al U=some (f,U')->Ref al U alD σD ->
  (∃pre,f=pre++al)/\Ext U U'/\((∀u y,Ref f U' u y->Sem P ac n u y Q)->Sem P ac n alD σD Q):=by
 intro L;induction L with
 |nil=>intro al f U U' alD σD h a;simp only[Hw,aw,ba] at h;obtain ⟨rfl,rfl⟩:=h;exact ⟨⟨[],rfl⟩,Ext.refl U,λhs=>hs alD σD a⟩
 |cons o L ih=>
  intro al f U U' alD σD h a;obtain ⟨t,i⟩:=o;simp only[Hw] at h;split at h
  ·
   generalize (t-1048576) / 1024=b at h;generalize (t-1048576) % 1024=j at h;split at h
   ·rename_i w z E;split at h
    ·rename_i v0 hj;obtain ⟨ds,hd,_,_,he⟩:=a.hh.cells E;have af:ds[j]? = some (.c (.lit (.slice none 0 0))):=by rw[he,jX,hj];rfl
     have R:BE (.cells w z) (.cells (w+1) (z.set j (w+1,.own i U.length 0 0))):=⟨w+1,_,rfl,by omega,by simp,λk v x v1 G e N=>by grind⟩
     have G:Ext U (U.set b (.cells (w+1) (z.set j (w+1,.own i U.length 0 0)))++[.row i [] 0 0]):=λg q e=>by
      obtain ⟨ad,N,O⟩:=Ext.set E R g q e
      grind
     have S:Ref al (U.set b (.cells (w+1) (z.set j (w+1,.own i U.length 0 0)))++[.row i [] 0 0]) alD (σD.set b (.cells (ds.set j (.sl σD.length 0 0 (aA i) 0)))++[.cells []]):=by
      refine ⟨⟨by simp[a.hh.len],λg q e=>?_,λg w' T e p A=>?_⟩,λt x p h=>?_⟩
      ·rcases uS g U.length with r | r
       ·rw[Ie (by simp_all)] at e;rw[Ie (by rw[SU,a.hh.len];exact r)];by_cases K:g=b
        ·subst K;rw[Gu E] at e;simp only[aw] at e;subst e;refine ⟨_,Gu hd,?_⟩;show _=TB.er _;simp only[TB.er,Ob.cells.injEq];rw[List.map_set,he,a.hh.len];simp[TC.er,OS]
        ·rw[Vz K] at e ⊢;exact a.hh.hp g q e
       ·rw[Pv (by simp_all),SU] at e;rw[Pv (by rw[SU,a.hh.len];exact r),SU,a.hh.len];have:g-U.length=0:=by grind
        rw[this] at e ⊢;simp only[List.getElem?_cons_zero,aw] at e;subst e;exact ⟨_,rfl,rfl⟩
      ·rcases uS g U.length with r | r
       ·rw[Ie (by simp_all)] at e;by_cases K:g=b
        ·subst K;rw[Gu E] at e;simp only[aw,TB.cells.injEq] at e;obtain ⟨rfl,rfl⟩:=e;rcases Vr A with A | rfl
         ·obtain ⟨W,g2⟩:=a.hh.hg g w z E p A;exact ⟨W.mono G,by omega⟩
         ·refine ⟨⟨.row i [] 0 0,?_,λj l lv cv e=>?_⟩,cT _⟩
          ·simp_all
          grind
        ·rw[Vz K] at e;obtain ⟨W,g2⟩:=a.hh.hg g w' T e p A;exact ⟨W.mono G,g2⟩
       grind
      ·obtain ⟨d,r,Z,h3⟩:=a.rg t x p h;exact ⟨d,r,Z,h3.mono G []⟩
     obtain ⟨⟨pre,N⟩,O,e3⟩:=ih _ _ _ _ _ _ h S;refine ⟨⟨pre,N⟩,Ext.trans a.hh G O,λhs=>?_⟩
     grind [Sem.ownC]
    ·grind
    simp_all
   simp_all
  split at h
  ·rename_i ht;obtain ⟨p,A⟩:=oQ ht;obtain ⟨d,r,Z,_⟩:=a.rg t _ p A;have:=RT.c1 (by simp) Z;subst this;have S:Ref ((t,.v (.c (.own i U.length 0 0)))::al) (U++[.row i [] 0 0]) ((t,OS (aA i) σD.length 0)::alD) (σD++[.cells []]):=
    a.set (a.hh.push (blk:=.row i [] 0 0) (ob:=.cells []) rfl (λw z e=>by simp at e)) (Ext.push U _) (Or.inr (by rw[a.hh.len];rfl)) (pg (b:=0) rfl)
   obtain ⟨⟨pre,N⟩,O,e3⟩:=ih _ _ _ _ _ _ h S;refine ⟨⟨pre++[(t,.v (.c (.own i U.length 0 0)))],by simp_all⟩,Ext.trans a.hh (Ext.push U _) O,λhs=>?_⟩;exact Sem.own t (aA i) r (d:=OS (aA i) σD.length 0) (by simp[OS]) rfl (e3 hs)
  ·grind
  simp_all
theorem Sem.drwCQ{P:Program}{n:Nat}{al:AL}{U:aq}{Q:qd->AL->aq->Prop}{orc:ig}{j:List aM}{k:Nat}{i:List Nat}{p:Nat}(o:P.follows .mixedOrders=true)(O:pC P orc)
  (h:dq P orc (dH j) j n al U λz U' u=>(dR i u&&nA i p (dH j) j.length&&Nat.ble p (dH j))=true/\Q .normal z U'):Sem P (.FA j i k p) n al U Q:=by
 obtain ⟨L,U1,u,h,hp,W⟩:=h;intro c Z M Fz w a K R A hK;obtain ⟨e',h1,h2⟩:=h _ A.eE.2;have ad:∀m r,jL P orc j i p m (xq n al) U=some r->r=(e',U1,u.flatMap (·.wr)):=by
  intro m r E;unfold jL at E;split at E
  ·rename_i e2 U2 af G;have:=Jj _ _ _ _ _ _ _ G h1
   simp_all
  simp_all
 have G:jL P orc j i p (dH j) (xq n al) U=some (e',U1,u.flatMap (·.wr)):=by
  unfold jL
  simp_all
 have h4:kR P orc 1 (.FA j i k p) (xq n al) U []=some (.normal,e',U1,u.flatMap (·.wr)++[]):=by grind [kR]
 have:Sem P (.FA j i k p) n al U Q:=Sem.Cg o O (k:=1) (wr:=[]) (e:=xq n al) (e':=e') (x:=.normal) (U':=U1) h4 rfl h2 W;exact this c Z M Fz w a K R A hK
theorem SI(g:KQ)(dF:g.P.follows .mixedOrders=true)(O:tf g.P (Gz (JK g.S)))(hI:UI g){R:Type}:∀(ac:br)(q:Nat)(al:TA)(U:TH)(K:KC R)(r:R)(alD:AL)(σD:aq),tC g ac q al U K=some r->Ref al U alD σD ->
  Sem g.P ac g.n alD σD (vc al U K r):=by
 intro ac;induction ac with
 |skip=>intro q al U K r alD σD h u;exact Sem.skip dF ⟨al,U,u,⟨[],rfl⟩,Ext.refl U,h⟩
 |exit id=>intro q al U K r alD σD h u;exact Sem.exit dF ⟨al,U,u,⟨[],rfl⟩,Ext.refl U,h⟩
 |ret=>intro q al U K r alD σD h u;exact Sem.ret dF ⟨al,U,u,⟨[],rfl⟩,Ext.refl U,h⟩
 |stuck=>grind [tC]
 |VF l=>intro q al U K r alD σD h u;exact Sem.VF ⟨al,U,u,⟨[],rfl⟩,Ext.refl U,h⟩
 |QY l a rr a5 b1=>
  intro q al U K r alD σD h u;have ev:∀{i:Nat},Nat.beq (i % 2) 0=true->i % 2=0:=λh=>cY h;simp only[tC] at h;split at h
  ·
   refine Sem.QY 1 ((a5 _ _ _ _ _ alD σD h u).gg λex a8 a9 hP=>.inl ?_);obtain ⟨o,U1,v,⟨pre,e1⟩,L,j⟩:=hP;cases ex with
   |normal=>exact ⟨o,U1,v,⟨pre,e1⟩,L,j⟩
   |ret=>exact ⟨o,U1,v,⟨pre,e1⟩,L,j⟩
   |exit i=>
    dsimp only at j;split at j
    ·rename_i hi;refine .inl ⟨cY hi,a8,a9,r_.refl (by rw[u.hh.len,v.hh.len];exact L.len),QR.succ ((b1 _ _ _ _ _ a8 a9 j v).gg λex f d hP=>.inl ?_)⟩;obtain ⟨ad,U2,g1,⟨T,e2⟩,g3,g4⟩:=hP;have fin:∀{ex:qd},K ex ad U2=some r->vc al U K r ex f d:=λg4=>⟨ad,U2,g1,⟨T++pre,by simp_all⟩,Ext.trans u.hh L g3,g4⟩;cases ex with
     |normal=>exact fin g4
     |ret=>exact fin g4
     |exit i=>
      dsimp only at g4;split at g4
      ·rename_i he;exact .inr ⟨ev he,fin g4⟩
      simp_all
    ·split at j
     ·rename_i he;exact .inr ⟨ev he,o,U1,v,⟨pre,e1⟩,L,j⟩
     simp_all
  ·
   rename_i E hJ;have a6:∀(k:Nat)(x:qc E.pl)(f:AL)(d:aq),Ext U (cH E (cB a++cB rr) al U x)->HS (E.pl++LU E.zs) U (cH E (cB a++cB rr) al U x)->(cH E (cB a++cB rr) al U x).length=U.length->Ref (fx E (cB a++cB rr) al U x) (cH E (cB a++cB rr) al U x) f d ->
     ca (λrec x=>tC g rr (2 * q+1) (fx E (cB a++cB rr) al U x) (cH E (cB a++cB rr) al U x) λex o U1=>match ex with
      |.exit i => match Nat.beq i (2 * l + 1) with
       |true=>match Eg E (cB a++cB rr) (fx E (cB a++cB rr) al U x) (cH E (cB a++cB rr) al U x) o U1 with | some x'=>rec x' | none=>none
       |false=>match Nat.beq (i % 2) 0 with | true=>K (.exit i) o U1 | false=>none
      |ex=>K ex o U1) k x=some r->QR g.P rr l k g.n f d (vc al U K r):=by
    intro k;induction k with
    |zero=>grind [ca]
    |succ k a7=>
     intro x f d x1 x2 x3 x4 h;have B:=b1 _ _ _ _ _ f d (show tC g rr (2 * q+1) (fx E (cB a++cB rr) al U x) (cH E (cB a++cB rr) al U x) _=some r from h) x4;refine QR.succ (B.gg λex a3 a4 hP=>.inl ?_);obtain ⟨o,U1,v,⟨pre,rfl⟩,L,j⟩:=hP;obtain ⟨ax,eA,_⟩:=tV E (cB a++cB rr) al U x;have fin:∀{ex:qd},K ex (pre++fx E (cB a++cB rr) al U x) U1=some r->vc al U K r ex a3 a4:=λj=>⟨_,U1,v,⟨pre++ax,by simp_all⟩,Ext.trans u.hh x1 L,j⟩;cases ex with
     |normal=>exact fin j
     |ret=>exact fin j
     |exit i=>
      dsimp only at j;split at j
      ·rename_i hi;split at j
       ·rename_i xv hx;obtain ⟨T,U2,bt,bu,w1,bc,bd,hx⟩:=yA x4 v L hx;obtain ⟨d1,d2,d3,d5,d4⟩:=qb hx;have a0:=oJ d1;obtain ⟨f1,f2,f3,W,Z,f4,f5⟩:=qe (md:=cB a++cB rr) u bc (λt q h=>by rw[eA,<-Tz];exact yo h)
         (λt q m1 m2 m3 h=>oZ (λy hy e=>(a0 y hy).elim (λz=>m1 (e▸z)) λ⟨b,i,l,lv,cv,z1,z2⟩=>let ⟨i,l,lv,cv,z3⟩:=ye x1 x3 z2;m3 b (e▸z1) i l lv cv z3) (Di x1 x3 m1 m2 m3 h)) (x2.trans (Wb x4.hh d2 bd)) d3 (by simp_all) d4
        refine .inl ⟨cY hi,W,Z,?_,a7 xv W Z f1 f2 f3 f5 j⟩;rw[x4.hh.len,x3];rw[x3] at w1;exact w1.trans f4
       simp_all
      ·split at j
       ·rename_i he;exact .inr ⟨ev he,fin j⟩
       simp_all
   refine Sem.QY g.N ((a5 _ _ _ _ _ alD σD h u).gg λex a8 a9 hP=>.inl ?_);obtain ⟨o,U1,v,⟨pre,rfl⟩,L,j⟩:=hP;have fin:∀{ex:qd},K ex (pre++al) U1=some r->vc al U K r ex a8 a9:=λj=>⟨_,U1,v,⟨pre,rfl⟩,L,j⟩;cases ex with
   |normal=>exact fin j
   |ret=>exact fin j
   |exit i=>
    dsimp only at j;split at j
    ·rename_i hi;split at j
     ·grind
     ·rename_i x0 hx;obtain ⟨T,U2,bt,bu,w1,bc,bd,hx⟩:=yA u v L hx;obtain ⟨d1,d2,d3,d5,d4⟩:=qb hx;have a0:=oJ d1;obtain ⟨f1,f2,f3,W,Z,f4,f5⟩:=qe (md:=cB a++cB rr) u bc (λt q h=>yo h)
       (λt q m1 _ m3 h=>oZ (λy hy e=>(a0 y hy).elim (λz=>m1 (e▸z)) λ⟨b,i,l,lv,cv,z1,z2⟩=>m3 b (e▸z1) i l lv cv z2) h) (Wb u.hh d2 bd) d3 d5 d4
      refine .inl ⟨cY hi,W,Z,?_,a6 g.N x0 W Z f1 f2 f3 f5 j⟩;rw[u.hh.len];exact w1.trans f4
    ·split at j
     ·rename_i he;exact .inr ⟨ev he,fin j⟩
     simp_all
 |MK os=>
  intro q al U K r alD σD h u;simp only[tC] at h;split at h
  ·rename_i hU;obtain ⟨oz,o1,_,o3⟩:=yC g q O hI 1000 0 os [] al U _ r alD σD h (yK hU) u (λp b hk=>by grind [Bb]) (λp b hk=>by grind [Bb]);refine Sem.pS dF o1 (o3.mono λa s i hA=>?_);obtain ⟨a1,U',is,v,h2,L,_,j⟩:=hA;exact ⟨a1,U',v,h2,L,j⟩
  simp_all
 |FA os ch k p=>
  intro q al U K r alD σD h u;simp only[tC] at h;split at h
  ·simp at h
  rename_i hU;split at h
  ·obtain ⟨oz,o1,_,o3⟩:=yC g q O hI 1000 os.length os [] al U _ r alD σD h (yK hU) u (λp b hk=>by grind [Bb]) (λp b hk=>by grind [Bb]);refine Sem.drwNQ dF o1 (o3.mono λa s i hA=>?_);obtain ⟨a1,U',is,v,h2,L,h5,j⟩:=hA;dsimp only at j;split at j
   ·rename_i hc;simp only[bJ] at hc ⊢;exact ⟨⟨⟨pK h5 hc.1.1,hc.1.2⟩,hc.2⟩,a1,U',v,h2,L,j⟩
   simp_all
  split at h
  ·rename_i pi _ n0 hl;split at h
   ·rename_i hc;obtain ⟨oz,o1,_,o3⟩:=yC g q O hI 1000 n0 (mT pi os) [] al U _ r alD σD h (yK hc) u (λp b hk=>by grind [Bb]) (λp b hk=>by grind [Bb]);refine Sem.drwG dF o1 hl (o3.mono λa s i hA=>?_);obtain ⟨a1,U',is,v,h2,L,h5,j⟩:=hA;dsimp only at j;split at j
    ·rename_i hc;exact ⟨Qp h5 hc,a1,U',v,h2,L,j⟩
    simp_all
   simp_all
  split at h
  ·obtain ⟨oz,o1,_,o3⟩:=yC g q O hI 1000 (dH os) os [] al U _ r alD σD h (yK hU) u (λp b hk=>by grind [Bb]) (λp b hk=>by grind [Bb]);refine Sem.drwCQ dF o1 (o3.mono λa s i hA=>?_);obtain ⟨a1,U',is,v,h2,L,h5,j⟩:=hA;dsimp only at j;split at j
   ·rename_i hc;simp only[bJ] at hc ⊢;exact ⟨⟨⟨pK h5 hc.1.1,hc.1.2⟩,hc.2⟩,a1,U',v,h2,L,j⟩
   simp_all
  ·obtain ⟨oz,o1,_,o3⟩:=yC g q O hI 1000 k os [] al U _ r alD σD h (yK hU) u (λp b hk=>by grind [Bb]) (λp b hk=>by grind [Bb]);refine Sem.drwQ dF o1 (o3.mono λa s i hA=>?_);obtain ⟨a1,U',is,v,h2,L,h5,j⟩:=hA;dsimp only at j;split at j
   ·rename_i hc;simp only[bJ] at hc ⊢;exact ⟨⟨⟨pK h5 hc.1.1,hc.1.2⟩,hc.2⟩,a1,U',v,h2,L,j⟩
   simp_all
 |seq a b a5 a2=>
  intro q al U K r alD σD h u;simp only[tC] at h;split at h
  ·
   have A:=a5 _ _ _ _ _ alD σD h u;refine Sem.jB (A.gg λx ak av hP=>.inl ?_);obtain ⟨o,U1,v,⟨pre,rfl⟩,L,j⟩:=hP;cases x with
   |normal=>refine .inl ((a2 _ _ _ _ _ ak av j v).gg λx f d hP=>.inl ?_);obtain ⟨ad,U2,g1,⟨T,rfl⟩,g3,g4⟩:=hP;exact ⟨_,U2,g1,⟨T++pre,by simp_all⟩,Ext.trans u.hh L g3,g4⟩
   |exit i=>exact ⟨_,U1,v,⟨pre,rfl⟩,L,j⟩
   |ret=>exact ⟨_,U1,v,⟨pre,rfl⟩,L,j⟩
  ·
   rename_i E hJ;split at h
   ·simp at h
   rename_i S G hz;obtain ⟨⟨be,eZ⟩,xZ,sZ⟩:=Nq (P:=g.P) (n:=g.n) (ac:=.seq a b) (Q:=vc al U K r) E.os al S U G alD σD hz u;refine sZ λbv bh bi=>?_;have back:∀{x:qd}{ak:AL}{av:aq},vc S G K r x ak av->vc al U K r x ak av:=λ⟨o,U1,v,⟨pre,e⟩,L,j⟩=>⟨o,U1,v,⟨pre++be,by simp_all⟩,Ext.trans u.hh xZ L,j⟩;refine Sem.gg ?_ (λx a1 U' hP=>.inl (back hP));clear back sZ xZ eZ;replace u:=bi;have A:=a5 _ _ _ _ _ bv bh (show tC g a (2 * q) S G _=some r from h) u;refine Sem.jB (A.gg λx ak av hP=>.inl ?_);obtain ⟨o,U1,v,⟨pre,rfl⟩,L,j⟩:=hP;cases x with
   |normal=>
    dsimp only at j;split at j
    ·rename_i xv hx;obtain ⟨pre,U1,ak,av,w1,v,L,hx⟩:=yA u v L hx;obtain ⟨c1,c2,c3,c5,c4⟩:=qb hx;have a0:=oJ c1;obtain ⟨e1,_,e3,f,d,e4,e5⟩:=qe (md:=cB a) u v (λt q h=>yo h) (λt q hm _ m3 h=>oZ (λy hy e=>(a0 y hy).elim (λz=>hm (e▸z)) λ⟨b,i,l,lv,cv,z1,z2⟩=>m3 b (e▸z1) i l lv cv z2) h) (Wb u.hh c2 L) c3 c5 c4;refine .inr ⟨f,d,by rw[u.hh.len];exact w1.trans e4,(a2 _ _ _ _ _ f d j e5).gg λx a3 a4 hP=>.inl ?_⟩;obtain ⟨ad,U2,g1,⟨T,rfl⟩,g3,g4⟩:=hP;obtain ⟨ax,eA,_⟩:=tV E (cB a) S G xv;exact ⟨_,U2,g1,⟨T++ax,by simp_all⟩,Ext.trans u.hh e1 g3,g4⟩
    simp_all
   |exit i=>exact ⟨_,U1,v,⟨pre,rfl⟩,L,j⟩
   |ret=>exact ⟨_,U1,v,⟨pre,rfl⟩,L,j⟩
 |cond c a b a5 a2=>
  intro q al U K r alD σD h u;simp only[tC] at h;have hr:cV U alD (GX al [] none):=nX u (λp b hk=>by grind [Bb]) (by simp);split at h
  ·rename_i hc;obtain ⟨v,_⟩:=hr.c hc (by simp);exact Sem.cond (b:=true) (by cases c <;> exact v) (λ_=>a5 _ _ _ _ _ alD σD h u) (λe=>by simp at e)
  ·rename_i hc;obtain ⟨v,_⟩:=hr.c hc (by simp);exact Sem.cond (b:=false) (by cases c <;> exact v) (λe=>by simp at e) (λ_=>a2 _ _ _ _ _ alD σD h u)
  ·rename_i e hc;obtain ⟨v,_⟩:=hr.c hc (by simp);refine Sem.cond (b:=e) (by cases c <;> exact v) (λhe=>?_) (λhe=>?_)
   ·grind
   grind
  simp_all
 |block id b a2=>
  intro q al U K r alD σD h u;simp only[tC] at h;refine Sem.block ((a2 _ _ _ _ _ alD σD h u).gg λx ak av hP=>.inl ⟨_,_,.refl,?_⟩);obtain ⟨o,U1,v,h2,L,j⟩:=hP;cases x with
  |normal=>exact ⟨o,U1,v,h2,L,j⟩
  |ret=>exact ⟨o,U1,v,h2,L,j⟩
  |exit i=>
   dsimp only at j;refine ⟨λe=>?_,λe=>?_⟩
   ·subst e;have:Nat.beq i i=true:=by simp
    rw[this] at j;exact ⟨o,U1,v,h2,L,j⟩
   ·have:Nat.beq i id=false:=by
     grind [Nat.eq_of_beq_eq_true]
    rw[this] at j;exact ⟨o,U1,v,h2,L,j⟩
 |loop b a2=>
  intro q al U K r alD σD h u;simp only[tC] at h;split at h
  ·simp at h
  ·rename_i E hJ;split at h
   ·rename_i nu hu;refine Sem.loop nu ?_;have a6:∀(k:Nat)(ad:TA)(U2:TH)(f:AL)(d:aq),(∃pre,ad=pre++al)->Ext U U2->Ref ad U2 f d ->
      lpU (λrec al U=>tC g b (2 * q) al U λex o U1=>match ex with | .normal=>rec o U1 | ex=>K ex o U1) k ad U2=some r->kS g.P b k g.n f d (vc al U K r):=by
     intro k;induction k with
     |zero=>grind [lpU]
     |succ k a7=>
      intro ad U2 f d x1 x2 x4 h;have B:=a2 _ _ _ _ _ f d (show tC g b (2 * q) ad U2 _=some r from h) x4;refine kS.succ (B.gg (Q':=λx o U1=>match x with | .normal=>∃ad U2,Wk d.length o U1 ad U2/\kS g.P b k g.n ad U2 (vc al U K r) | x=>∃ad U2,Wk d.length o U1 ad U2/\vc al U K r x ad U2) λex a3 a4 hP=>.inl ?_);obtain ⟨o,U1,v,⟨pre,rfl⟩,L,j⟩:=hP;obtain ⟨T,rfl⟩:=x1;cases ex with
      |normal=>exact ⟨_,_,.refl,a7 _ _ _ _ ⟨pre++T,by simp_all⟩ (Ext.trans u.hh x2 L) v j⟩
      |exit i=>exact ⟨_,_,.refl,_,U1,v,⟨pre++T,by simp_all⟩,Ext.trans u.hh x2 L,j⟩
      |ret=>exact ⟨_,_,.refl,_,U1,v,⟨pre++T,by simp_all⟩,Ext.trans u.hh x2 L,j⟩
    exact a6 nu al U alD σD ⟨[],rfl⟩ (Ext.refl U) u h
   split at h
   ·simp at h
   rename_i S G hz;obtain ⟨⟨be,eZ⟩,xZ,sZ⟩:=Nq (P:=g.P) (n:=g.n) (ac:=.loop b) (Q:=vc al U K r) E.os al S U G alD σD hz u;refine sZ λbv bh bi=>?_;have back:∀{x:qd}{ak:AL}{av:aq},vc S G K r x ak av->vc al U K r x ak av:=λ⟨o,U1,v,⟨pre,e⟩,L,j⟩=>⟨o,U1,v,⟨pre++be,by simp_all⟩,Ext.trans u.hh xZ L,j⟩;refine Sem.gg ?_ (λx a1 U' hP=>.inl (back hP));clear back sZ xZ eZ;replace u:=bi;clear bi hz;split at h
   ·
    rename_i zz zs ck;split at h
    ·simp at h
    rename_i af N he;obtain ⟨rfl,le,ze,b4,b5,se,Re,xe⟩:=mvE_ok (m:=G.length) (zz::zs) u (cT _) he;split at h
    ·simp at h
    rename_i x0 bw;have b0:G.length<=N.length:=by omega
    obtain ⟨_,c2,c3,c5,c4⟩:=qb bw;obtain ⟨e1,e2,e3,f,d,e4,e5⟩:=qe (md:=cB b) Re Re (λt q h=>⟨q,h⟩) (λt q _ _ _ h=>h) (Wb Re.hh c2 (Ext.refl N)) c3 c5 c4;refine Sem.loop g.N (Ae.start (al:=f) (U:=d) (by rw[u.hh.len];exact se.trans (e4.le b0)) ?_);have a6:∀(k:Nat)(x:qc E.pl)(f:AL)(d:aq),Ext N (cH E (cB b) af N x)->HS (E.pl++LU E.zs) N (cH E (cB b) af N x)->(cH E (cB b) af N x).length=N.length->Ref (fx E (cB b) af N x) (cH E (cB b) af N x) f d ->
      ca (λrec x=>tC g b (2 * q) (fx E (cB b) af N x) (cH E (cB b) af N x) λex o U1=>match ex with
       |.normal => match mvL (o.length - (fx E (cB b) af N x).length) (zz :: zs) o U1 with
        |none=>none
        |some (o,U1)=>match Eg E (cB b) (fx E (cB b) af N x) (cH E (cB b) af N x) o U1 with | some x'=>rec x' | none=>none
       |ex=>K ex o U1) k x=some r->Ae g.P b k g.n bh f d (vc af G K r):=by
     intro k;induction k with
     |zero=>grind [ca]
     |succ k a7=>
      intro x f d x1 x2 x3 x4 h;have B:=a2 _ _ _ _ _ f d (show tC g b (2 * q) (fx E (cB b) af N x) (cH E (cB b) af N x) _=some r from h) x4;refine Ae.succ (B.gg λex a3 a4 hP=>.inl ?_);obtain ⟨o,U1,v,⟨pre,rfl⟩,L,j⟩:=hP;obtain ⟨ax,eA,_⟩:=tV E (cB b) af N x;cases ex with
      |normal=>
       dsimp only at j;split at j
       ·grind
       rename_i b6 cm b2;rw[show (pre++fx E (cB b) af N x).length-(fx E (cB b) af N x).length=pre.length by simp_all] at b2;have b3:N.length<=U1.length:=by rw[<-x3];exact L.len
       obtain ⟨b7,b8,b9,rfl,sm,Rm,xm⟩:=mvL_ok (m:=G.length) x4 (zz::zs) L v rfl (λz hz=>⟨(ze z hz).1,EM (ze z hz).2 b3⟩) (mA b0 b3) b2;split at j
       ·rename_i xv hx;obtain ⟨T,U2,bt,bu,w1,bc,bd,hx⟩:=yA x4 Rm xm hx;obtain ⟨d1,d2,d3,d5,d4⟩:=qb hx;have a0:=oJ d1;obtain ⟨f1,f2,f3,W,Z,f4,f5⟩:=qe (md:=cB b) Re bc (λt q h=>by rw[eA,<-Tz];exact yo h)
         (λt q m1 m2 m3 h=>oZ (λy hy e=>(a0 y hy).elim (λz=>m1 (e▸z)) λ⟨b,i,l,lv,cv,z1,z2⟩=>let ⟨i,l,lv,cv,z3⟩:=ye x1 x3 z2;m3 b (e▸z1) i l lv cv z3) (Di x1 x3 m1 m2 m3 h)) (x2.trans (Wb x4.hh d2 bd)) d3 (by simp_all) d4
        refine ⟨W,Z,?_,a7 xv W Z f1 f2 f3 f5 j⟩;rw[u.hh.len];rw[x3] at w1;exact sm.trans ((w1.trans f4).le b0)
       simp_all
      |exit i=>exact ⟨_,U1,v,⟨pre++ax,by simp_all⟩,Ext.trans u.hh xe (Ext.trans Re.hh x1 L),j⟩
      |ret=>exact ⟨_,U1,v,⟨pre++ax,by simp_all⟩,Ext.trans u.hh xe (Ext.trans Re.hh x1 L),j⟩
    exact a6 g.N x0 f d e1 e2 e3 e5 h
   split at h
   ·simp at h
   ·rename_i x0 bw;obtain ⟨_,c2,c3,c5,c4⟩:=qb bw;obtain ⟨e1,e2,e3,f,d,e4,e5⟩:=qe (md:=cB b) u u (λt q h=>⟨q,h⟩) (λt q _ _ _ h=>h) (Wb u.hh c2 (Ext.refl G)) c3 c5 c4;refine Sem.loop g.N (kS.preW (by rw[u.hh.len];exact e4) ?_);have a6:∀(k:Nat)(x:qc E.pl)(f:AL)(d:aq),Ext G (cH E (cB b) S G x)->HS (E.pl++LU E.zs) G (cH E (cB b) S G x)->(cH E (cB b) S G x).length=G.length->Ref (fx E (cB b) S G x) (cH E (cB b) S G x) f d ->
      ca (λrec x=>tC g b (2 * q) (fx E (cB b) S G x) (cH E (cB b) S G x) λex o U1=>match ex with
       |.normal=>match Eg E (cB b) (fx E (cB b) S G x) (cH E (cB b) S G x) o U1 with | some x'=>rec x' | none=>none
       |ex=>K ex o U1) k x=some r->kS g.P b k g.n f d (vc S G K r):=by
     intro k;induction k with
     |zero=>grind [ca]
     |succ k a7=>
      intro x f d x1 x2 x3 x4 h;have B:=a2 _ _ _ _ _ f d (show tC g b (2 * q) (fx E (cB b) S G x) (cH E (cB b) S G x) _=some r from h) x4;refine kS.succW (B.gg λex a3 a4 hP=>.inl ?_);obtain ⟨o,U1,v,⟨pre,rfl⟩,L,j⟩:=hP;obtain ⟨ax,eA,_⟩:=tV E (cB b) S G x;cases ex with
      |normal=>
       dsimp only at j;split at j
       ·rename_i xv hx;obtain ⟨pre,U1,a3,a4,w1,v,L,hx⟩:=yA x4 v L hx;obtain ⟨d1,d2,d3,d5,d4⟩:=qb hx;have a0:=oJ d1;obtain ⟨f1,f2,f3,W,Z,f4,f5⟩:=qe (md:=cB b) u v (λt q h=>by rw[eA,<-Tz];exact yo h)
         (λt q m1 m2 m3 h=>oZ (λy hy e=>(a0 y hy).elim (λz=>m1 (e▸z)) λ⟨b,i,l,lv,cv,z1,z2⟩=>let ⟨i,l,lv,cv,z3⟩:=ye x1 x3 z2;m3 b (e▸z1) i l lv cv z3) (Di x1 x3 m1 m2 m3 h)) (x2.trans (Wb x4.hh d2 L)) d3 (by simp_all) d4
        exact ⟨W,Z,by rw[x4.hh.len,x3];rw[x3] at w1;exact w1.trans f4,a7 xv W Z f1 f2 f3 f5 j⟩
       simp_all
      |exit i=>exact ⟨_,U1,v,⟨pre++ax,by simp_all⟩,Ext.trans u.hh x1 L,j⟩
      |ret=>exact ⟨_,U1,v,⟨pre++ax,by simp_all⟩,Ext.trans u.hh x1 L,j⟩
    exact a6 g.N x0 f d e1 e2 e3 e5 h
theorem zip_ok:∀(cs:List cR)(a:rU cs)(i t:Nat)(x:RV)(p:Nat),dV t (zF i (tvV cs a))=some (x,p)->∃d v,x=.v v/\lk t (jD i (tn cs a))=some d/\RT v d/\GV [] v:=by
 intro cs;induction cs with
 |nil=>grind [tvV,zF,dV]
 |cons c cs ih=>
  intro a i t x p h;simp only[tvV,zF,dV] at h;simp only[tn,jD,lk];split at h
  ·rename_i b;simp only[aw,ba] at h
   try rw[b]
   exact ⟨_,_,h.1.symm,rfl,c.Tv a.1,Ho c a.1⟩
  simp_all
theorem Tq:∀(cs:List cR)(a:rU cs),(tn cs a).length=cs.length:=by
 intro cs;induction cs with
 |nil=>intro a;rfl
 |cons c cs ih=>grind [tn]
theorem Yr{al:TA}{U:TH}{alD:AL}{σD:aq}(e:Ref al U alD σD){q:Nat×Option (Option Nat)}{v:TV}(h:DX al U q=some v):∃d,nJ alD σD q=some d/\RT v d/\GV U v:=by
 obtain ⟨t,o⟩:=q;cases o with
 |none=>
  simp only[DX] at h;split at h
  ·rename_i x f;simp only[aw] at h;subst h;obtain ⟨p,a⟩:=oQ f;obtain ⟨d,g,i,j⟩:=e.rg t _ p a;exact ⟨d,g,i,j⟩
  simp_all
 |some m=>
  simp only[DX] at h;split at h
  ·rename_i b off sz f;obtain ⟨p,a⟩:=oQ f;obtain ⟨d,g,i,_⟩:=e.rg t _ p a;have:=RT.c1 (by simp) i;subst this;split at h
   ·rename_i w r k;obtain ⟨ds,j,u,E,_⟩:=e.hh.cells k;split at h
    ·rename_i hs;obtain ⟨d,z,A⟩:=yg h u;refine ⟨d,?_,A,oS h λy l=>?_⟩
     ·simp only[nJ,g,TC.er];rw[Y_ j (sz:=sz) (by simp_all),aE];exact z
     ·rw[jJ] at l;obtain ⟨p,a,rfl⟩:=l;exact (e.hh.hg b w r k p a).1
    simp_all
   simp_all
  simp_all
theorem HU{al:TA}{U:TH}{alD:AL}{σD:aq}(f:Ref al U alD σD):∀{e:List (Nat×Option (Option Nat))}{vs:List TV},Eo (DX al U) e=some vs->∃ds,e.mapM (nJ alD σD)=some ds/\fo vs ds/\∀v∈vs,GV U v:=by
 intro e;induction e with
 |nil=>intro vs h;simp only[Eo,aw] at h;subst h;exact ⟨[],rfl,.nil,by simp⟩
 |cons q e ih=>
  intro vs h;simp only[Eo] at h;split at h
  ·rename_i a b g i;simp only[aw] at h;subst h;obtain ⟨d,l,j,o⟩:=Yr f g;obtain ⟨ds,p,k,r⟩:=ih i;refine ⟨d::ds,?_,.cons j k,λv t=>?_⟩
   ·simp_all
   grind
  simp_all
theorem XZ{U:TH}{σD:aq}(H:RH U σD):∀{cs:List cR}{vs:List TV}{ds:List D}{r:kT cs},wh U cs vs=some r->fo vs ds->(∀v∈vs,GV U v)->∃es,ds.mapM (mM σD 0 100)=some es/\es.map Bi=rB cs r/\(∀d,ds=[d]->vP σD 0 100 d=mM σD 0 100 d):=by
 intro cs;induction cs with
 |nil=>
  intro vs ds r h a g;cases a with
  |nil=>exact ⟨[],rfl,rfl,λd e=>by simp at e⟩
  |cons _ _=>grind [wh]
 |cons c cs ih=>
  intro vs ds r h a g;cases a with
  |nil=>grind [wh]
  |cons f a=>
   rename_i v d vs ds;cases cs with
   |nil=>
    cases a with
    |nil=>
     simp only[wh] at h;obtain ⟨b,i,j,k⟩:=LH H (g v (by simp)) f h;refine ⟨[b],by simp_all,by grind [rB],λl e=>?_⟩
     simp_all
    |cons _ _=>grind [wh]
   |cons u cs=>
    cases a with
    |nil=>grind [wh]
    |cons o a=>
     simp only[wh] at h;split at h
     ·rename_i x y p q;simp only[aw] at h;subst h;obtain ⟨b,i,j,k⟩:=LH H (g v (by simp)) f p;obtain ⟨es,z,A,_⟩:=ih q (.cons o a) λv t=>g v (pG _ t);refine ⟨b::es,by simp_all,by grind [rB],λl e=>by simp at e⟩
     simp_all
theorem tF_ok{P:Program}{S:wj}{B:cL}{l:BT}{H:List (Nat×Nat)}{J:List (Nat×JH)}{C:List (Nat×List CT)}{u:Nat}{g:FuncId}{fn:Func}{j:mR}{e out:List cR}{N:Nat}{a:rU e}{r:kT out}(dF:P.follows .mixedOrders=true)(hS:mb P S)
  (hg:P.funcs[g]? = some fn) (y:bq P g=true) (hc:jI P fn true=some j) (hI:UI ⟨P,S,H,J,C,j.ntmps,N,(Nh P S N B l u).1,(Nh P S N B l u).2,l⟩) (hn:Nat.ble e.length j.ntmps=true) (h:tF P S B l H J C u j e out N a=some r):Pure P g (tn e a) (tA out r):=by
 refine uj hg y hc (by rw[Tq];simp_all) ?_;have R0:Ref (zF 0 (tvV e a)) [] (jD 0 (tn e a)) []:=⟨⟨rfl,λb blk h=>by simp at h,λb w cs h=>by simp at h⟩,λt x p h=>by obtain ⟨d,v,rfl,G,z,K⟩:=zip_ok e a 0 t x p h;exact ⟨d,G,z,K⟩⟩
 refine (SI ⟨P,S,H,J,C,j.ntmps,N,(Nh P S N B l u).1,(Nh P S N B l u).2,l⟩ dF (wT (wB hS)) hI j.body 1 _ _ _ r _ _ h R0).gg λx A f hP=>.inl ?_;obtain ⟨L,T,G,_,_,z⟩:=hP;have fin:(match Eo (DX L T) j.results with | some rs=>wh T out rs | none=>none)=some r->∃E o,j.results.mapM (nJ A f)=some E/\vP f 0 100 (one E)=some o/\Dw o (tA out r):=by
  intro z;split at z
  ·rename_i rs O;obtain ⟨ds,K,h4,h5⟩:=HU G O;obtain ⟨W,q,h7,h8⟩:=XZ G.hh z h4 h5;have Z:W.length=ds.length:=(Oo q).1;have k:one ds=.aT ds->one (rB out r)=.aT (rB out r)->∃o,vP f 0 100 (one ds)=some o/\Dw o (tA out r):=λQ e2=>by
    rw[Q];refine ⟨.aT W,Yi q,Dw.Mc ?_⟩
    grind [Po,tA]
   have R:(rB out r).length=ds.length:=by grind
   cases ds with
   |nil=>
    obtain ⟨o,Q,e2⟩:=k rfl (by have:rB out r=[]:=VD R;rw[this];rfl)
    simp_all
   |cons d ds=>
    cases ds with
    |nil=>
     have e3:=h8 d rfl;rw[Qf] at q;cases h9:mM f 0 100 d with
     |none=>simp_all
     |some d'=>
      rw[h9] at q;simp only[List.mapM_nil] at q;cases q;refine ⟨[d],d',K,by rw[<-h9];exact e3,?_⟩;have e4:tA out r=Bi d':=by unfold tA;rw[<-h7];rfl
      rw[e4];intro U M Fz w v hv;exact DA hv
    |cons d2 ds=>
     obtain ⟨o,Q,e2⟩:=k rfl (by
      cases ho:rB out r with
      |nil=>simp_all
      |cons o1 os=>
       cases os with
       |nil=>simp_all
       |cons o2 os=>rfl)
     simp_all
  simp_all
 cases x with
 |exit i=>grind
 |normal=>grind
 |ret=>grind
theorem mb.nil{P:Program}:mb P []:=λp i=>by grind
theorem mb.cons{P:Program}{g:Nat}{s:bz}{S:wj}(h:bB P g s)(j:mb P S):mb P ((g,s)::S):=by
 intro p i;rcases me.1 i with rfl | i
 ·exact h
 ·exact j p i
end
end Go.Abs
end
section
namespace Go.Abs
noncomputable section
variable[Gl][Y:Ty]
section
variable{m:Nat}{U1 U2:aq}{ρ:Nat->Nat}{F:Nat->Prop}
theorem oD{P:Program}{g:FuncId}{fn:Func}{z:mR}{fz:Bool}{ds:List D}{r:D}{U:aq}(hg:P.funcs[g]? = some fn)(A:jI P fn fz=some z)(E:ds.length<=z.ntmps)
  (h:Sem P z.body z.ntmps (jD 0 ds) U λx al U1=>(x=.normal∨x=.ret)/\∃a ρ F,z.results.mapM (nJ al U1)=some a/\Oq U.length U1 U2 ρ F/\(∀b,F b->U.length<=b)/\c_ U1 U2 ρ F (one a) r):Ok P g ds U r U2:=by
 unfold jI at A;split at A
 ·rename_i c hb;split at A
  ·rename_i ac rs h1 h2;simp only[aw] at A;subst A;dsimp only at h E;intro M Fz w j R hs L;refine calls_of_wp hg hb ?_;have A0:fU fn.ntmps U M Fz w (jD 0 ds) (j++Array.replicate (fn.ntmps-j.size) undef):=by
    refine ⟨by simp_all,λt d ht=>?_⟩;obtain ⟨_,h3⟩:=Dy ds 0 t d ht;rw[Nat.sub_zero] at h3;have N:t<j.size:=by grind
    exact ⟨j[t],by grind,L t d _ h3 (tc N)⟩
   refine h c h1 M Fz w { tmps:=j++Array.replicate (fn.ntmps-j.size) undef,defers:=[] } _ R A0 λx e u a' y M' O hQ hd K Q EV hl=>?_;obtain ⟨hx,a,ρ,F,hm,hN,hF,S⟩:=hQ;have T:rs.mapM (JL (xq fn.ntmps e) u)=some a:=by
    have ak:∀(l:List (Nat×Option (Option Nat))) a,l.mapM (nJ e u)=some a->l.mapM (JL (xq fn.ntmps e) u)=some a:=by
     intro l;induction l with
     |nil=>simp_all
     |cons p l ih=>
      intro a h;rw[Qf] at h ⊢;cases G:nJ e u p with
      |none=>simp_all
      |some d=>
       rw[G] at h;have:JL (xq fn.ntmps e) u p=some d:=by
        obtain ⟨t,o⟩:=p;cases o with
        |none=>exact Q.eE.2.2 t d G
        |some k=>
         simp only[nJ] at G;split at G
         ·rename_i b off sz W;simp only[JL,Q.eE.2.2 t _ W];exact G
         simp_all
       rw[this];cases hr:l.mapM (nJ e u) with
       |none=>simp_all
       |some q=>simp_all
    simp_all
   obtain ⟨v,Z,ad⟩:=lB (P:=P) K Q.eE.1 h2 T;have post:a'.defers=[]/\∃v,(results fn a'.tmps).run P y=.ok v y/\∃v' i f,Ending.returned v=.returned v'/\Rel U2 i f y/\V U2 i f y r v'/\bQ U M Fz w U2 i f y:=
    ⟨hd,v,Z,v,_,_,rfl,hN.rel K,S M' O y v K ad,hN.W_ (cT _) hF R K EV⟩
   rcases hx with rfl | rfl
   ·exact post
   ·exact post
  simp_all
 simp_all
end
end
end Go.Abs
end
section
namespace Go.Abs
noncomputable section
variable[Gl][Y:Ty]
theorem Dm{c:It}{d:jU}{a:c.dn}(h:lU c d=some a):d=⟨c,a⟩:=by
 unfold lU at h;split at h
 ·rename_i e _;simp only[aw] at h;obtain ⟨it,v⟩:=d
  grind
 simp_all
theorem K_(c:It)(a:c.dn):lU c ⟨c,a⟩=some a:=by
 unfold lU;split
 ·rfl
 grind
theorem RD:∀{cs:List It}{ds:List jU}{x:dT cs},uu cs ds=some x->gL cs x=ds:=by
 intro cs;induction cs with
 |nil=>
  intro ds x h;cases ds with
  |nil=>rfl
  |cons d ds=>grind [uu]
 |cons c cs ih=>
  intro ds x h;cases cs with
  |nil=>
   cases ds with
   |nil=>grind [uu]
   |cons d ds=>
    cases ds with
    |nil=>grind [uu,gL,Dm]
    |cons _ _=>grind [uu]
  |cons a cs=>
   cases ds with
   |nil=>grind [uu]
   |cons d ds=>grind [uu,gL,Dm]
structure SR (σs U2:TH):Prop where
 len:U2.length=σs.length
 row:∀(b:Nat) i (l:List (TT i)) lv cv,σs[b]? = some (.row i l lv cv)->U2[b]? = some (.row i l lv cv)
def GS(σs:TH):TC->Prop
 |.own i b v n=>∃(l:List (TT i))(a:Nat),σs[b]? = some (.row i l v a)/\n=l.length
 |.d x=>x.low σs.length=true
 |.any=>False
 |.op ..=>False
 |.ap ..=>False
 |.os ..=>False
 |.DQ ..=>False
 |_=>True
theorem GS.gc{σs U2:TH}(h:SR σs U2){x:TC}(g:GS σs x):GC U2 x:=by
 cases x with
 |own i b v n=>
  obtain ⟨l,o,u,A⟩:=g;refine ⟨_,h.row b i l v o u,λj E G z e=>?_⟩
  grind
 |d x=>show D.low _ _=true;rw[h.len];exact g
 |any=>exact g.elim
 |op=>exact g.elim
 |ap=>exact g.elim
 |os=>exact g.elim
 |DQ=>exact g.elim
 |_=>trivial
theorem Ga(σs:TH)(c:CC)(a:c.dn):GS σs (xf c a):=by cases c <;> first | exact True.intro | rfl
theorem MY{σs:TH}{p:CP}{ds r:List jU}{y:TC}(h:Ag σs p ds=some (y,r)):GS σs y:=by
 unfold Ag at h;split at h
 ·grind [Ga]
 ·split at h
  ·simp only[aw,ba] at h;obtain ⟨rfl,_⟩:=h;trivial
  simp_all
 ·split at h
  ·rename_i i l d b a;simp only[aw,ba] at h;obtain ⟨rfl,_⟩:=h;exact ⟨l,b,a,rfl⟩
  simp_all
 ·split at h
  ·rename_i a;simp only[aw,ba] at h;obtain ⟨rfl,_⟩:=h;show D.low _ _=true;simp only[D.low,bb];simp_all
  simp_all
 ·split at h
  ·rename_i a;simp only[aw,ba] at h;obtain ⟨rfl,_⟩:=h;show D.low _ _=true;simp only[D.low,bb];simp_all
  simp_all
 ·split at h
  ·rename_i a;simp only[aw,ba] at h;obtain ⟨rfl,_⟩:=h;exact D.dJ (OL _) a
  simp_all
 simp_all
theorem Om{σs:TH}:∀{a:List CP}{ds r:List jU}{b:List TC},yN σs a ds=some (b,r)->∀y∈b,GS σs y:=by
 intro a;induction a with
 |nil=>grind [yN]
 |cons p a ih=>grind [yN,MY]
theorem RH.mk'{U:TH}(i:∀(b:Nat) w cs,U[b]? = some (.cells w cs)->∀p∈cs,GC U p.2/\p.1<=w):RH U (U.map TB.er):=⟨by simp,λb blk j=>⟨blk.er,by simp_all,rfl⟩,i⟩
theorem RH.eqD{U:TH}{σD:aq}(H:RH U σD):σD=U.map TB.er:=by
 apply Rg;intro b;rw[jX];cases i:U[b]? with
 |none=>grind [RH.len]
 |some blk=>obtain ⟨u,j,o⟩:=H.hp b blk i;rw[j,o];rfl
structure xB (ps:List PC) (U ib:TH):Prop where
 ext:Ext U ib
 len:ib.length=U.length
 cells:∀(b:Nat) w cs,U[b]? = some (.cells w cs)↔ib[b]? = some (.cells w cs)
 out:∀b,b∉ps.map PC.blk->ib[b]? = U[b]?
 row:ps.any PC.rs=false->∀(b:Nat) i (l:List (TT i)) lv cv,U[b]? = some (.row i l lv cv)->ib[b]? = some (.row i l lv cv)
 rh:∃σD',RH ib σD'
theorem gn:∀{k:List PC}{U q:TH}{σD:aq}{ds r:List jU},cd U k ds=some (q,r)->RH U σD->xB k U q:=by
 intro k;induction k with
 |nil=>intro U q σD ds r h H;simp only[cd,aw,ba] at h;obtain ⟨rfl,_⟩:=h;exact ⟨Ext.refl U,rfl,λb w f=>Iff.rfl,λb _=>rfl,λ_ b i l t u h=>h,⟨σD,H⟩⟩
 |cons p k ih=>
  intro U q σD ds r h H;have one:∀(b:Nat)(blk a:TB)(y:List jU),U[b]? = some blk->BE blk a->(∀w f,blk≠.cells w f)->(∀w f,a≠.cells w f)->p.blk=b->(p.rs=false->∀i (l:List (TT i)) t u,blk≠.row i l t u)->cd (U.set b a) k y=some (q,r)->xB (p::k) U q:=by
   intro b blk a y E G R z K S h;have H1:RH (U.set b a) (σD.set b a.er):=H.set E G rfl (λw f e=>absurd e (z w f));have e:=ih h H1;refine ⟨Ext.trans H (Ext.set E G) e.ext,by rw[e.len];simp,λx w f=>?_,λx g=>?_,λo x i l t u T=>?_,e.rh⟩
   ·rw[<-e.cells]
    grind
   ·simp only[oK,me,not_or,K] at g;rw[e.out x g.2,Vz g.1]
   ·simp only[List.any_cons,yBF] at o;refine e.row o.2 x i l t u ?_
    grind
  cases p with
  |h b j p=>simp only[cd] at h;have e:=ih h H;exact ⟨e.ext,e.len,e.cells,λx g=>e.out x (λL=>g (pG _ L)),λo=>e.row (by simp_all),e.rh⟩
  |w b i=>
   cases ds with
   |nil=>grind [cd]
   |cons d ds=>
    simp only[cd] at h;split at h
    ·rename_i l j N t u O A;split at h
     ·rename_i P;have:=cY P;subst this;exact one b _ _ ds A ⟨l,_,_,rfl,by omega,by omega,λe=>by omega,λe=>by omega⟩ (λw f e=>by simp at e) (λw f e=>by simp at e) rfl (λe=>by grind [PC.rs]) h
     simp_all
    simp_all
  |m b j st=>
   cases ds with
   |nil=>grind [cd]
   |cons d ds=>
    simp only[cd] at h;split at h
    ·rename_i l W Q N v O A;exact one b _ _ ds A ⟨_,_,_,_,rfl,by omega,λe=>by omega⟩ (λw f e=>by simp at e) (λw f e=>by simp at e) rfl (λ_ i l t u e=>by simp at e) h
    simp_all
theorem BL:∀{a:List NB}{ds r:List jU}{l:TH},dA a ds=some (l,r)->l.length=a.length:=by
 intro a;induction a with
 |nil=>grind [dA]
 |cons nb a ih=>
  intro ds r l h;cases nb with
  |cells b=>grind [dA]
  |row i=>
   cases ds with
   |nil=>grind [dA]
   |cons d ds=>grind [dA]
  |mp j st=>
   cases ds with
   |nil=>grind [dA]
   |cons d ds=>grind [dA]
theorem yW{σs:TH}:∀{a:List NB}{e l:TH}{ds:List jU},dX σs a e ds=some l->l.length=a.length/\(∀(k:Nat) i (r:List (TT i)) f g,e[k]? = some (.row i r f g)->k<a.length->(∀q,a[k]?≠some (.cells q))->l[k]? = some (.row i r f g)) /\
  (∀(k:Nat) w cs,l[k]? = some (.cells w cs)->(∃o d,e[k]? = some (.cells o d)/\cs=d/\w=o)∨∀p∈cs,GS σs p.2/\p.1<=w):=by
 intro a;induction a with
 |nil=>intro e l ds h;simp only[dX,aw] at h;simp_all
 |cons nb a ih=>
  intro e l ds h;cases e with
  |nil=>grind [dX]
  |cons b e=>
   have E:∀t,dX σs a e ds=some t->l=b::t->l.length=(nb::a).length/\(∀(k:Nat) i (r:List (TT i)) f g,(b::e)[k]? = some (.row i r f g)->k<(nb::a).length->(∀q,(nb::a)[k]?≠some (.cells q))->l[k]? = some (.row i r f g)) /\
     (∀(k:Nat) w cs,l[k]? = some (.cells w cs)->(∃o d,(b::e)[k]? = some (.cells o d)/\cs=d/\w=o)∨∀p∈cs,GS σs p.2/\p.1<=w):=by
    grind
   cases nb with
   |row i=>
    simp only[dX] at h
    grind
   |mp j st=>
    simp only[dX] at h
    grind
   |cells q=>
    simp only[dX] at h;split at h
    ·rename_i G r v;split at h
     ·rename_i t y;simp only[aw] at h;subst h;obtain ⟨z,K,L⟩:=ih y;refine ⟨by simp[z],λk i r f g hk N O=>?_,λk w cs hk=>?_⟩
      ·grind
      ·cases k with
       |zero=>simp only[List.getElem?_cons_zero,aw,TB.cells.injEq] at hk;obtain ⟨rfl,rfl⟩:=hk;refine .inr λp u=>?_;rw[jJ] at u;obtain ⟨x,A,rfl⟩:=u;exact ⟨Om v x A,cT _⟩
       |succ k=>grind
     simp_all
    simp_all
theorem xg:∀{a:List NB}{ds r:List jU}{l:TH},dA a ds=some (l,r)->∀(k:Nat),(∀w cs,l[k]? = some (.cells w cs)->cs=[])/\(∀b,a[k]? = some (.cells b)->l[k]? = some (.cells 0 [])):=by
 intro a;induction a with
 |nil=>grind [dA]
 |cons nb a ih=>
  intro ds r l h k;cases nb with
  |cells b=>
   simp only[dA] at h
   grind
  |row i=>
   cases ds with
   |nil=>grind [dA]
   |cons d ds=>grind [dA]
  |mp j st=>
   cases ds with
   |nil=>grind [dA]
   |cons d ds=>grind [dA]
structure Nv (σs:TH) (ps:List PC) (U U':TH):Prop where
 len:U'.length=U.length
 same:∀(b:Nat) blk,U[b]? = some blk->(∀w cs,blk≠.cells w cs)->U'[b]? = some blk
 Zz:∀(b:Nat) w cs,U[b]? = some (.cells w cs)->∃w' cs',U'[b]? = some (.cells w' cs')/\w<=w'/\cs'.length=cs.length/\∀(j:Nat) v1 x1,cs'[j]? = some (v1,x1)->cs[j]? = some (v1,x1)∨(w<v1/\v1<=w'/\GS σs x1)
 out:∀b,b∉ps.map PC.blk->U'[b]? = U[b]?
theorem kD{σs:TH}:∀{d:List PC}{U U':TH}{ds r:List jU},fA σs d U ds=some (U',r)->Nv σs d U U':=by
 intro d;induction d with
 |nil=>intro U U' ds r h;simp only[fA,aw,ba] at h;obtain ⟨rfl,_⟩:=h;exact ⟨rfl,λb blk h _=>h,λb w o h=>⟨w,o,h,cT _,rfl,λj A E e=>.inl e⟩,λb _=>rfl⟩
 |cons p d ih=>
  intro U U' ds r h;have skip:fA σs d U ds=some (U',r)->Nv σs (p::d) U U':=λh=>by have e:=ih h;exact ⟨e.len,e.same,e.Zz,λb a=>e.out b λt=>a (pG _ t)⟩
  cases p with
  |w b i=>grind [fA]
  |m b j st=>grind [fA]
  |h b j p=>
   simp only[fA] at h;split at h
   ·rename_i x G w o u q;have g:=MY u;have e:=ih h;refine ⟨by rw[e.len];simp,λf blk a v=>?_,λf y k a=>?_,λf a=>?_⟩
    ·refine e.same f blk ?_ v
     grind
    ·by_cases l:f=b
     ·subst l;rw[q] at a;simp only[aw,TB.cells.injEq] at a;obtain ⟨rfl,rfl⟩:=a;obtain ⟨w2,z,K,L,N,O⟩:=e.Zz f _ _ (Gu q)
      grind
     ·exact e.Zz f y k (by grind)
    ·simp only[oK,me,not_or,PC.blk] at a;rw[e.out f a.2,Vz a.1]
   simp_all
def eD:TV->D
 |.c x=>x.er
 |.agg a=>.agg (a.map TC.er)
 |.aT _=>.aT []
def nT:TV->Prop
 |.aT _=>False
 |_=>True
def GVs(σs:TH):TV->Prop
 |.c x=>GS σs x
 |.agg a=>∀x∈a,GS σs x
 |.aT _=>False
theorem GS.fp(σs:TH)(i:Nat)(a:TT i):GS σs (.fp i a 0):=True.intro
theorem exp_gs(σs:TH)(i:Nat)(a:TT i):∀y∈exp i a,GS σs y:=by
 have d:∀(b:List CC)(x:aT b),∀y∈zh b x,GS σs y:=by
  intro b;induction b with
  |nil=>grind [zh]
  |cons c b ih=>grind [zh,Ga]
 exact d _ _
theorem ZW{σs:TH}{p:RO}{ds r:List jU}{v:TV}(h:AU σs p ds=some (v,r)):GVs σs v:=by
 unfold AU at h;split at h
 ·split at h
  ·simp only[aw,ba] at h;obtain ⟨rfl,_⟩:=h;exact Ga σs _ _
  simp_all
 ·split at h
  ·simp only[aw,ba] at h;obtain ⟨rfl,_⟩:=h;exact exp_gs σs _ _
  simp_all
 ·split at h
  ·simp only[aw,ba] at h;obtain ⟨rfl,_⟩:=h;exact True.intro
  simp_all
 ·split at h
  ·rename_i x b a;simp only[aw,ba] at h;obtain ⟨rfl,_⟩:=h;exact MY a
  simp_all
 ·split at h
  ·rename_i d b a;simp only[aw,ba] at h;obtain ⟨rfl,_⟩:=h;exact Om a
  simp_all
 simp_all
theorem FY{σs:TH}:∀{a:List RO}{ds r:List jU}{vs:List TV},qg σs a ds=some (vs,r)->∀v∈vs,GVs σs v:=by
 intro a;induction a with
 |nil=>grind [qg]
 |cons p a ih=>grind [qg,ZW]
theorem GVs.gv{σs U2:TH}(h:SR σs U2){v:TV}(g:GVs σs v):GV U2 v:=by
 cases v with
 |c x=>exact GS.gc h g
 |agg i=>exact λx j=>GS.gc h (g x j)
 |aT i=>exact g.elim
theorem GVs.nt{σs:TH}{v:TV}(g:GVs σs v):nT v:=by
 cases v with
 |aT i=>exact g.elim
 |_=>trivial
theorem RT.eD{v:TV}(h:nT v):RT v (eD v):=by
 cases v with
 |c x=>exact .inr rfl
 |agg i=>exact ⟨_,rfl,aH.er i⟩
 |aT i=>exact h.elim
theorem NV{vs:List TV}(h:∀v∈vs,nT v):RT (yM vs) (one (vs.map Go.Abs.eD)):=by
 have aT:∀(vs:List TV),(∀v∈vs,nT v)->aH RE (vs.map teT) (vs.map Go.Abs.eD):=by
  intro vs;induction vs with
  |nil=>intro _;exact .nil
  |cons v vs ih=>
   intro h;refine .cons ?_ (ih λv b=>h v (pG _ b));have:=h v (pe ..);cases v with
   |c x=>exact ⟨x,rfl,.inr rfl⟩
   |agg a=>exact ⟨_,rfl,aH.er a⟩
   |aT a=>exact this.elim
 cases vs with
 |nil=>exact ⟨[],rfl,.nil⟩
 |cons v vs=>
  cases vs with
  |nil=>exact RT.eD (h v (pe ..))
  |cons d vs=>exact ⟨_,rfl,aT _ h⟩
theorem OQ{U:TH}{vs:List TV}(h:∀v∈vs,GV U v):GV U (yM vs):=by
 have aT:∀(vs:List TV),(∀v∈vs,GV U v)->GV U (.aT (vs.map teT)):=by
  intro vs h p b x a;rw[jJ] at b;obtain ⟨v,d,rfl⟩:=b;have:=h v d;cases v with
  |c y=>simp only[teT,me,yB0,or_false] at a;subst a;exact this
  |agg e=>exact this x a
  |aT e=>grind [teT]
 cases vs with
 |nil=>exact aT _ h
 |cons v vs=>
  cases vs with
  |nil=>exact h v (pe ..)
  |cons f vs=>exact aT _ h
theorem JW:∀{a:List PC}{U g:TH}{ds r:List jU},cd U a ds=some (g,r)->∀p∈a,(∃b i,p=.w b i)∨(∃b j st,p=.m b j st)->p.blk<U.length:=by
 intro a;induction a with
 |nil=>simp_all
 |cons p a ih=>
  intro U g ds r h q e u;cases p with
  |h b j c=>grind [cd]
  |w b i=>
   cases ds with
   |nil=>grind [cd]
   |cons d ds=>
    simp only[cd] at h;split at h
    ·rename_i l j k x y o f;split at h
     ·rcases me.1 e with rfl | e
      ·exact (jy.1 f).1
      grind
     simp_all
    simp_all
  |m b j st=>
   cases ds with
   |nil=>grind [cd]
   |cons d ds=>
    simp only[cd] at h;split at h
    ·rename_i l z t k v o f;rcases me.1 e with rfl | e
     ·exact (jy.1 f).1
     grind
    simp_all
theorem Yl{σs:TH}:∀{a:List PC}{U U':TH}{ds r:List jU},fA σs a U ds=some (U',r)->∀b j p,PC.h b j p∈a->b<U.length:=by
 intro a;induction a with
 |nil=>simp_all
 |cons q a ih=>
  intro U U' ds r h b j p f;cases q with
  |w d i=>grind [fA]
  |m d e st=>grind [fA]
  |h d e g=>grind [fA]
structure Laid (ct:CT) (U:TH) (ds:List jU) (rv:List TV) (F:TH) where
 ib:TH
 d1:List jU
 nb:TH
 d2:List jU
 d3:List jU
 U2:TH
 d4:List jU
 l:TH
 h1:cd U ct.pl ds=some (ib,d1)
 h2:dA ct.nb d1=some (nb,d2)
 h3:qg (ib++nb) ct.out d2=some (rv,d3)
 h4:fA (ib++nb) ct.pl ib d3=some (U2,d4)
 h5:dX (ib++nb) ct.nb nb d4=some l
 e:F=U2++l
theorem lh{ct:CT}{U F:TH}{x:dT ct.bN}{rv:List TV}(h:sH ct U x=some (rv,F)):Nonempty (Laid ct U (gL ct.bN x) rv F):=by
 unfold sH at h;split at h
 ·simp at h
 ·rename_i a b d;split at h
  ·simp at h
  ·rename_i nb e f;split at h
   ·simp at h
   ·rename_i p g i;split at h
    ·simp at h
    ·rename_i U2 j k;split at h
     ·rename_i l o;simp only[aw,ba] at h;obtain ⟨rfl,rfl⟩:=h;exact ⟨⟨a,b,nb,e,g,U2,j,l,d,f,i,k,o,rfl⟩⟩
     simp_all
section
variable{ct:CT}{U F:TH}{σD:aq}{ds:List jU}{rv:List TV}
theorem Laid.fl(L:Laid ct U ds rv F):F.length=L.U2.length+L.l.length:=by have:=Ts List.length L.e;simp_all
theorem Laid.fa(L:Laid ct U ds rv F)(b:Nat):F[b]? = (L.U2++L.l)[b]?:=Ts (λl=>l[b]?) L.e
theorem Laid.sr(L:Laid ct U ds rv F):SR (L.ib++L.nb) F:=by
 have C:=kD L.h4;obtain ⟨x,z,K⟩:=yW L.h5;refine ⟨by rw[L.fl,Gh,C.len,x,BL L.h2],λb i l A E j=>?_⟩;rw[L.fa];rcases uS b L.ib.length with o | u
 ·rw[Ie o] at j;rw[Ie (by grind [Nv.len])];exact C.same b _ j (λw O e=>by simp at e)
 ·rw[Pv u] at j;rw[Pv (by grind [Nv.len]),C.len];refine z _ i l A E j (by rw[<-BL L.h2];grind) λG e=>?_;rw[(xg L.h2 _).2 G e] at j
  grind
theorem Laid.lt(L:Laid ct U ds rv F)(H:RH U σD){b:Nat}(h:b<U.length):F[b]? = L.U2[b]?:=by have C:=kD L.h4;have i:=gn L.h1 H;rw[L.fa,Ie (by rw[C.len,i.len];exact h)]
theorem Laid.ext(L:Laid ct U ds rv F)(H:RH U σD):Ext U F:=by
 have C:=kD L.h4;have E:=gn L.h1 H;obtain ⟨G,Hr⟩:=E.rh;refine Ext.trans H E.ext λb blk K=>?_;have u:b<U.length:=by grind [xB.len]
 rw[L.lt H u];have other:(∀w z,blk≠.cells w z)->∃o,L.U2[b]? = some o/\BE blk o:=λO=>⟨blk,C.same b blk K O,BE.refl blk⟩;cases blk with
 |cells w z=>
  obtain ⟨Q,A,R,W,Z,e4⟩:=C.Zz b w z K;refine ⟨_,R,Q,A,rfl,W,Z,λj v x v1 x1 h h1=>?_⟩
  grind
 |row i l lv cv=>simp_all
 |mp j st l v=>simp_all
theorem Laid.rh(L:Laid ct U ds rv F)(H:RH U σD):RH F (F.map TB.er):=by
 have C:=kD L.h4;have Ro:=gn L.h1 H;have S:=L.sr;obtain ⟨ad,Hr⟩:=Ro.rh;obtain ⟨n1,n2,n3⟩:=yW L.h5;have er:Ext L.ib F:=λb blk u=>by
  have E:b<U.length:=by grind [xB.len]
  rw[L.lt H E];have other:(∀w z,blk≠.cells w z)->∃A,L.U2[b]? = some A/\BE blk A:=λhn=>⟨blk,C.same b blk u hn,BE.refl blk⟩;cases blk with
  |cells w z=>
   obtain ⟨R,G,O,W,e3,e4⟩:=C.Zz b w z u;refine ⟨_,O,R,G,rfl,W,e3,λj v x v1 x1 h Z=>?_⟩
   grind
  |row i l lv cv=>simp_all
  |mp j st l v=>simp_all
 refine RH.mk' λb w z u p hp=>?_;rcases uS b U.length with E | ak
 ·rw[L.lt H E] at u;have K:=dB (show b<L.ib.length by grind [xB.len]);cases o:L.ib[b]'(by grind) with
  |row i l lv cv=>rw[o] at K;rw[C.same b _ K (λw z e=>by simp at e)] at u;grind
  |mp j st l v=>rw[o] at K;rw[C.same b _ K (λw z e=>by simp at e)] at u;grind
  |cells w0 Q=>
   rw[o] at K;obtain ⟨R,G,O,W,e3,e4⟩:=C.Zz b w0 Q K;rw[u] at O;simp only[aw,TB.cells.injEq] at O;obtain ⟨rfl,rfl⟩:=O;obtain ⟨j,hj⟩:=yBr hp;obtain ⟨v1,x1⟩:=p;rcases e4 j v1 x1 hj with h5 | ⟨h5,h6,h7⟩
   ·obtain ⟨h8,h9⟩:=Hr.hg b w0 Q K _ (yl h5);exact ⟨h8.mono er,mA h9 W⟩
   grind [GS.gc]
 ·have af:L.U2.length=U.length:=by rw[C.len,Ro.len]
  rw[L.fa,Pv (by omega)] at u;rcases n3 _ w z u with ⟨R,G,Z,rfl,rfl⟩ | Z
  ·rw[(xg L.h2 _).1 w z Z] at hp;grind
  grind [GS.gc]
theorem Laid.out(L:Laid ct U ds rv F)(H:RH U σD){b:Nat}(j:b<U.length)(i:b∉ct.pl.map PC.blk):F[b]? = U[b]?:=by rw[L.lt H j,(kD L.h4).out b i,(gn L.h1 H).out b i]
theorem Laid.szs(L:Laid ct U ds rv F)(H:RH U σD)(K:ct.pl.any PC.rs=false){b:Nat}(z:b<U.length):∃x y,U[b]? = some x/\F[b]? = some y/\x.er.sz=y.er.sz:=by
 have C:=kD L.h4;have E:=gn L.h1 H;have u:=dB z;cases o:U[b] with
 |cells w A=>rw[o] at u;obtain ⟨w',O,Q,e2,e3,e4⟩:=C.Zz b w A ((E.cells b w A).1 u);exact ⟨_,_,u,by rw[L.lt H z];exact Q,by grind [TB.er,Ob.sz]⟩
 |row i l R W=>rw[o] at u;exact ⟨_,_,u,by rw[L.lt H z];exact C.same b _ (E.row K b i l R W u) (λw A e=>by simp at e),rfl⟩
 |mp j st l v=>rw[o] at u;obtain ⟨G,Z,j1,ad,l1,v1,rfl,_⟩:=L.ext H b _ u;exact ⟨_,_,u,Z,rfl⟩
theorem Laid.all(L:Laid ct U ds rv F)(H:RH U σD):RH F (F.map TB.er)/\RT (yM rv) (one (rv.map eD))/\GV F (yM rv)/\Ext U F/\(∀b,b<σD.length->b∉ct.pl.map PC.blk->(F.map TB.er)[b]? = σD[b]?)/\(ct.pl.any PC.rs=false->jZ σD (F.map TB.er) (ct.pl.map PC.blk)=true):=by
 have g:=FY L.h3;refine ⟨L.rh H,NV λv o=>(g v o).nt,OQ λv o=>(g v o).gv L.sr,L.ext H,λb u E=>?_,λG=>?_⟩
 ·rw[H.eqD,jX,jX,L.out H (by grind [RH.len]) E]
 ·rw[H.eqD,jZ,gH];intro b u;rw[jJ] at u;obtain ⟨p,z,rfl⟩:=u;have A:p.blk<U.length:=by
   cases p with
   |w b i=>exact JW L.h1 _ z (.inl ⟨b,i,rfl⟩)
   |m b j st=>exact JW L.h1 _ z (.inr ⟨b,j,st,rfl⟩)
   |h b j c=>have:=Yl L.h4 b j c z;rwa [(gn L.h1 H).len] at this
  obtain ⟨x,y,K,O,Q⟩:=L.szs H G A
  simp_all
end
end
end Go.Abs
end
section
namespace Go.Abs
noncomputable section
variable[Gl][Y:Ty]
structure Mo (s s':MS):Prop where
 Kf:∀b o,nI b s.ρ=some o->nI b s'.ρ=some o
 fz:∀b,b∈s.fz->b∈s'.fz
theorem Mo.refl(s:MS):Mo s s:=⟨λ_ _ h=>h,λ_ h=>h⟩
theorem Mo.trans{a b c:MS}(h:Mo a b)(i:Mo b c):Mo a c:=⟨λx o e=>i.Kf x o (h.Kf x o e),λx e=>i.fz x (h.fz x e)⟩
structure MI (m:Nat) (U1:TH) (s:MS):Prop where
 ge:∀p∈s.ρ,m<=p.1/\m<=p.2
 fz:∀b∈s.fz,∃(i:Nat)(l:List (TT i))(lv cv:Nat),U1[b]? = some (.row i l lv cv)
def Bd(m:Nat)(s:MS)(b a:Nat):Prop:=(b<m/\a=b)∨(m<=b/\nI b s.ρ=some a)
theorem Bd.mono{m:Nat}{s s':MS}{b i:Nat}(h:Mo s s'):Bd m s b i->Bd m s' b i
 |.inl a=>.inl a
 |.inr a=>.inr ⟨a.1,h.Kf _ _ a.2⟩
def CM(m:Nat)(U1 σs:TH)(s:MS)(x y:TC):Prop:=
 (Dw x.er y.er/\y.er.low 0=true/\(x=.d (.c (.lit (.slice none 0 0)))∨x.er=y.er)) ∨
 (∃(i b v:Nat)(l:List (TT i))(d:Nat),x=.own i b v l.length/\b∈s.fz/\U1[b]? = some (.row i l v d)/\y.er=.c (.cU false (l.map (enc i)))) ∨
 (∃(i b a v:Nat)(f:List (TT i))(e j g:Nat)(l:List (TT j))(d:Nat),x=.own i a v f.length/\Bd m s b a/\U1[a]? = some (.row i f v e)/\y=.own j b g l.length/\σs[b]? = some (.row j l g d)) ∨
 (∃b a off sz,x=.d (.ptr a off sz)/\Bd m s b a/\y=.d (.ptr b off sz)/\b<σs.length) ∨
 (∃b a,x=.d (.mp a)/\Bd m s b a/\y=.d (.mp b)/\b<σs.length)
variable{m:Nat}{U U1 σs:TH}{s s':MS}
theorem CM.mono(h:Mo s s'){x y:TC}(c:CM m U1 σs s x y):CM m U1 σs s' x y:=by
 rcases c with c | ⟨i,b,v,l,G,o,u,z,A⟩ | ⟨i,b,E,v,L,K,j,O,l,G,o,u,z,A,Q⟩ | ⟨b,E,off,sz,o,u,z,A⟩ | ⟨b,E,o,u,z,A⟩
 ·exact .inl c
 ·exact .inr (.inl ⟨i,b,v,l,G,o,h.fz _ u,z,A⟩)
 ·exact .inr (.inr (.inl ⟨i,b,E,v,L,K,j,O,l,G,o,u.mono h,z,A,Q⟩))
 ·exact .inr (.inr (.inr (.inl ⟨b,E,off,sz,o,u.mono h,z,A⟩)))
 ·exact .inr (.inr (.inr (.inr ⟨b,E,o,u.mono h,z,A⟩)))
theorem aH.mono{α i:Type}{R j:α->i->Prop}(h:∀a b,R a b->j a b){l:List α}{o:List i}(a:aH R l o):aH j l o:=by
 induction a with
 |nil=>exact .nil
 |cons x _ ih=>exact .cons (h _ _ x) ih
theorem CM.data{c:CC}{x:TC}{a:c.dn}(h:EC c x=some a):CM m U1 σs s x (xf c a):=by have i:=nZ h;refine .inl ⟨?_,by rw[kU];rfl,by grind [kU,Lg]⟩;rw[kU,<-i.2];intro U M Fz w v j;exact Hp j
theorem Mz{c:CC}{x:TC}{a:c.dn}(h:EC c (AW U1 x)=some a)(g:GC U1 x):(∀b∈iE [x],∃(i:Nat)(l:List (TT i))(d e:Nat),U1[b]? = some (.row i l d e))/\∀m σs s,(∀b∈iE [x],b∈s.fz)->CM m U1 σs s x (xf c a):=by
 cases x with
 |own i b v n=>
  simp only[AW] at h;split at h
  ·rename_i j l d e o;split at h
   ·rename_i p;have:=cY p;subst this;obtain ⟨blk,f,q⟩:=g;rw[o] at f;simp only[aw] at f;obtain ⟨_,r⟩:=q _ _ _ _ f.symm;obtain ⟨rfl,rfl⟩:=r rfl;refine ⟨λu k=>?_,λm σs s hs=>.inr (.inl ⟨j,b,d,l,e,rfl,hs b (by simp[iE]),o,?_⟩)⟩
    ·simp only[iE,me,yB0,or_false] at k
     grind
    ·have t:=nZ h;rw[kU,<-t.2];rfl
   grind [EC]
  grind [EC]
 |_=>exact ⟨by simp[iE],λm σs s _=>CM.data h⟩
theorem UM{d a:D}(h:eqK d a=true):d=a:=by
 unfold eqK at h;split at h
 ·rfl
 ·rfl
 ·rfl
 ·rfl
 ·simp_all
 ·simp_all
 simp_all
theorem BG{b g:Nat}(h:IJ m b g s=some s'):Mo s s'/\s'.rw=s.rw/\s'.cl=s.cl/\Bd m s' b g/\(MI m U1 s->MI m U1 s'):=by
 unfold IJ at h;split at h
 ·rename_i a;split at h
  ·rename_i e;simp only[aw] at h;subst h;exact ⟨Mo.refl s,rfl,rfl,.inl ⟨yh.mp a,(cY e).symm⟩,id⟩
  simp_all
 ·rename_i a;have d:m<=b:=by
   grind [Nat.blt_eq]
  split at h
  ·rename_i o i;split at h
   ·rename_i e;simp only[aw] at h;subst h;have:=cY e;subst this;exact ⟨Mo.refl s,rfl,rfl,.inr ⟨d,i⟩,id⟩
   simp_all
  ·rename_i i;split at h
   ·rename_i j;simp only[aw] at h;subst h;refine ⟨⟨λq o k=>?_,λ_ h=>h⟩,rfl,rfl,.inr ⟨d,?_⟩,λI=>⟨λp f=>?_,I.fz⟩⟩
    ·grind [nI,Nat.eq_of_beq_eq_true]
    ·grind [nI,Nat.beq_refl]
    ·rcases me.1 f with rfl | f
     ·simp_all
     ·exact I.ge p f
   simp_all
theorem Mn{p:CP}{x:TC}(h:mCP m U1 p x s=some s')(g:GC U1 x):∃P,s'.cl=s.cl++P/\s'.rw=s.rw/\Mo s s'/\(MI m U1 s->MI m U1 s')/\∀σs e y r,Ag σs p (P++e)=some (y,r)->r=e/\CM m U1 σs s' x y:=by
 unfold mCP at h;split at h
 ·rename_i c i b v n;split at h
  ·rename_i a Q;simp only[aw] at h;subst h;obtain ⟨z,L⟩:=Mz Q g;refine ⟨_,rfl,rfl,⟨λ_ _ h=>h,λ_ h=>pG _ h⟩,λI=>⟨I.ge,λo q=>?_⟩,λσs e y r f=>?_⟩
   ·rcases me.1 q with rfl | q
    ·exact z _ (by simp[iE])
    ·exact I.fz o q
   ·simp only[List.singleton_append,Ag,K_,aw,ba] at f;obtain ⟨rfl,rfl⟩:=f;exact ⟨rfl,L m σs _ (by simp[iE])⟩
  simp_all
 ·rename_i c x hx;split at h
  ·rename_i a Q;simp only[aw] at h;subst h;refine ⟨_,rfl,rfl,⟨λ_ _ h=>h,λ_ h=>h⟩,λI=>⟨I.ge,I.fz⟩,λσs e y r f=>?_⟩;simp only[List.singleton_append,Ag,K_,aw,ba] at f
   grind [CM.data]
  simp_all
 ·rename_i u v;simp only[aw] at h;subst h;refine ⟨_,rfl,rfl,⟨λ_ _ h=>h,λ_ h=>h⟩,λI=>⟨I.ge,I.fz⟩,λσs e y r f=>?_⟩;simp only[List.singleton_append,Ag,K_,aw,ba] at f;obtain ⟨rfl,rfl⟩:=f;exact ⟨rfl,.inl ⟨λ_ _ _ _ _ h=>h,rfl,.inr rfl⟩⟩
 ·rename_i b i o v n;split at h
  ·rename_i j l lv T k;split at h
   ·rename_i t;have:=cY t;subst this;obtain ⟨blk,z,L⟩:=g;rw[k] at z;simp only[aw] at z;obtain ⟨_,W⟩:=L _ _ _ _ z.symm;obtain ⟨rfl,rfl⟩:=W rfl;obtain ⟨A,E,R,G,K⟩:=BG (U1:=U1) h;refine ⟨[],by simp_all,E,A,K,λσs e y r f=>?_⟩;simp only[List.nil_append,Ag] at f;split at f
    ·rename_i Z l' N O hs;simp only[aw,ba] at f;obtain ⟨rfl,rfl⟩:=f;exact ⟨rfl,.inr (.inr (.inl ⟨_,b,o,_,l,T,Z,N,l',O,rfl,G,k,rfl,hs⟩))⟩
    simp_all
   simp_all
  simp_all
 ·rename_i b off sz o S ad;split at h
  ·rename_i t;simp only[bJ] at t;have e1:=cY t.1;have e2:=cY t.2;subst e1 e2;obtain ⟨A,E,R,G,K⟩:=BG (U1:=U1) h;refine ⟨[],by simp_all,E,A,K,λσs e y r f=>?_⟩;simp only[List.nil_append,Ag] at f;split at f
   ·rename_i k;simp only[aw,ba] at f;obtain ⟨rfl,rfl⟩:=f;exact ⟨rfl,.inr (.inr (.inr (.inl ⟨b,o,off,sz,rfl,G,rfl,yh.mp k⟩)))⟩
   simp_all
  simp_all
 ·rename_i b o;obtain ⟨A,E,R,G,K⟩:=BG (U1:=U1) h;refine ⟨[],by simp_all,E,A,K,λσs e y r f=>?_⟩;simp only[List.nil_append,Ag] at f;split at f
  ·rename_i k;simp only[aw,ba] at f;obtain ⟨rfl,rfl⟩:=f;exact ⟨rfl,.inr (.inr (.inr (.inr ⟨b,o,rfl,G,rfl,yh.mp k⟩)))⟩
  simp_all
 ·rename_i d d';split at h
  ·rename_i t;have:=UM t;subst this;simp only[aw] at h;subst h;refine ⟨[],by simp_all,rfl,Mo.refl s,id,λσs e y r f=>?_⟩;simp only[List.nil_append,Ag] at f;split at f
   ·rename_i k;simp only[aw,ba] at f;obtain ⟨rfl,rfl⟩:=f;exact ⟨rfl,.inl ⟨λ_ _ _ _ _ h=>h,k,.inr rfl⟩⟩
   simp_all
  simp_all
 simp_all
theorem Ow:∀{f:List CP}{d:List TC}{s s':MS},Jn m U1 f d s=some s'->(∀x∈d,GC U1 x)->∃j,s'.cl=s.cl++j/\s'.rw=s.rw/\Mo s s'/\(MI m U1 s->MI m U1 s')/\∀σs a i r,yN σs f (j++a)=some (i,r)->r=a/\aH (CM m U1 σs s') d i:=by
 intro f;induction f with
 |nil=>
  intro d s s' h g;cases d with
  |nil=>simp only[Jn,aw] at h;subst h;refine ⟨[],by simp,rfl,Mo.refl s,id,λσs a i r b=>?_⟩;simp only[List.nil_append,yN,aw,ba] at b;obtain ⟨rfl,rfl⟩:=b;exact ⟨rfl,.nil⟩
  |cons x d=>grind [Jn]
 |cons p f ih=>
  intro d s s' h g;cases d with
  |nil=>grind [Jn]
  |cons x d=>
   simp only[Jn] at h;split at h
   ·rename_i s1 l;obtain ⟨o,O,P,q,t,u⟩:=Mn l (g x (pe ..));obtain ⟨v,Q,R,k,z,A⟩:=ih h λy b=>g y (pG _ b);refine ⟨o++v,by grind,by grind,q.trans k,λI=>z (t I),λσs a i r b=>?_⟩;rw[Tz] at b;simp only[yN] at b;split at b
    ·rename_i y E G;obtain ⟨rfl,c1⟩:=u σs _ y E G;split at b
     ·rename_i K S L;simp only[aw,ba] at b;obtain ⟨rfl,rfl⟩:=b;obtain ⟨e,N⟩:=A σs _ _ _ L;exact ⟨e,.cons (c1.mono k) N⟩
     grind
    grind
   simp_all
def VM(m:Nat)(U1 σs:TH)(s:MS):TV->TV->Prop
 |.c x,.c y=>CM m U1 σs s x y
 |.agg xs,.agg a=>aH (CM m U1 σs s) xs a
 |_,_=>False
theorem VM.mono(h:Mo s s'){x y:TV}(c:VM m U1 σs s x y):VM m U1 σs s' x y:=by
 cases x with
 |c x => cases y with
  |c y=>exact CM.mono h c
  |_=>exact c.elim
 |agg i => cases y with
  |agg j=>exact aH.mono (λ_ _=>CM.mono h) c
  |_=>exact c.elim
 |aT i=>exact c.elim
theorem XT:∀{cs:List CC}{d:List TC}{a:aT cs},Et cs (d.map (AW U1))=some a->(∀x∈d,GC U1 x)->(∀b∈iE d,∃(i:Nat)(l:List (TT i))(j k:Nat),U1[b]? = some (.row i l j k))/\∀m σs s,(∀b∈iE d,b∈s.fz)->aH (CM m U1 σs s) d (zh cs a):=by
 intro cs;induction cs with
 |nil=>
  intro d a h g;cases d with
  |nil=>exact ⟨by simp[iE],λm σs s _=>.nil⟩
  |cons x d=>grind [Et]
 |cons c cs ih=>
  intro d a h g;cases d with
  |nil=>grind [Et]
  |cons x d=>
   simp only[oK,Et] at h;split at h
   ·rename_i u v o p;simp only[aw] at h;subst h;obtain ⟨z,q⟩:=Mz o (g x (pe ..));obtain ⟨A,r⟩:=ih p λy t=>g y (pG _ t);have f:∀b,b∈iE (x::d)↔b∈iE [x]∨b∈iE d:=by
     intro b;cases x <;> simp[iE]
    refine ⟨λb e=>?_,λm σs s hs=>.cons (q m σs s λb e=>hs b ((f b).2 (.inl e))) (r m σs s λb e=>hs b ((f b).2 (.inr e)))⟩
    grind
   simp_all
theorem mRO_ok{p:RO}{v:TV}(h:mRO m U1 p v s=some s')(g:GV U1 v):∃N,s'.cl=s.cl++N/\s'.rw=s.rw/\Mo s s'/\(MI m U1 s->MI m U1 s')/\∀σs d y r,AU σs p (N++d)=some (y,r)->r=d/\VM m U1 σs s' v y:=by
 unfold mRO at h;split at h
 ·rename_i c;split at h
  ·rename_i a k;simp only[aw] at h;subst h;cases v with
   |c x=>
    obtain ⟨o,u⟩:=Mz (c:=c) k g;refine ⟨_,rfl,rfl,⟨λ_ _ h=>h,λ_ h=>yB7 _ h⟩,λI=>⟨I.ge,λb l=>?_⟩,λσs d y r f=>?_⟩
    ·rcases zC.1 l with l | l
     ·exact o b l
     ·exact I.fz b l
    ·simp only[List.singleton_append,AU,K_,aw,ba] at f;obtain ⟨rfl,rfl⟩:=f;exact ⟨rfl,u m σs _ λb l=>Zk _ l⟩
   |agg q=>grind [fi,qF,Gr]
   |aT q=>grind [fi,qF,Gr]
  simp_all
 ·rename_i i;split at h
  ·rename_i a k;simp only[aw] at h;subst h;cases v with
   |c x=>grind [fi,qF,Ee]
   |aT x=>grind [fi,qF,Ee]
   |agg q=>
    simp only[fi,qF,Ee] at k;split at k
    ·rename_i t P;simp only[aw] at k;subst k;obtain ⟨o,u⟩:=XT P g;refine ⟨_,rfl,rfl,⟨λ_ _ h=>h,λ_ h=>yB7 _ h⟩,λI=>⟨I.ge,λb l=>?_⟩,λσs d y r f=>?_⟩
     ·rcases zC.1 l with l | l
      ·exact o b l
      ·exact I.fz b l
     ·simp only[List.singleton_append,AU,K_,aw,ba] at f;obtain ⟨rfl,rfl⟩:=f;refine ⟨rfl,?_⟩;show aH _ q (zh _ _);rw[Y.pm];exact u m σs _ λb l=>Zk _ l
    simp_all
  simp_all
 ·rename_i i;split at h
  ·rename_i a k;simp only[aw] at h;subst h;refine ⟨_,rfl,rfl,⟨λ_ _ h=>h,λ_ h=>h⟩,λI=>⟨I.ge,I.fz⟩,λσs d y r f=>?_⟩;simp only[List.singleton_append,AU,K_,aw,ba] at f;obtain ⟨rfl,rfl⟩:=f;refine ⟨rfl,?_⟩;cases v with
   |c x=>
    cases x with
    |fp j b off=>
     simp only[fi,AW,qF] at k;unfold AO at k;split at k
     ·rename_i S T O;simp only[TV.c.injEq,TC.fp.injEq] at O;obtain ⟨rfl,u,rfl⟩:=O;cases u;split at k
      ·rename_i e _;subst e;simp only[aw] at k;subst k;exact .inl ⟨λ_ _ _ _ _ h=>h,rfl,.inr rfl⟩
      simp_all
     simp_all
    |own j b v n=>
     exfalso;simp only[fi,AW,qF] at k;split at k
     ·split at k <;> simp[AO] at k
     grind [AO]
    |_=>grind [fi,AW,qF,AO]
   |agg q=>grind [fi,qF,AO]
   |aT q=>grind [fi,qF,AO]
  simp_all
 ·rename_i p x;obtain ⟨L,z,A,E,G,K⟩:=Mn h g;refine ⟨L,z,A,E,G,λσs d y r f=>?_⟩;simp only[AU] at f;split at f
  ·rename_i Q R o;simp only[aw,ba] at f;obtain ⟨rfl,rfl⟩:=f;exact K σs d _ _ o
  simp_all
 ·rename_i W q;obtain ⟨L,z,A,E,G,K⟩:=Ow h g;refine ⟨L,z,A,E,G,λσs d y r f=>?_⟩;simp only[AU] at f;split at f
  ·rename_i Q R o;simp only[aw,ba] at f;obtain ⟨rfl,rfl⟩:=f;exact K σs d _ _ o
  simp_all
 simp_all
theorem WS:∀{f:List RO}{d:List TV}{s s':MS},HN m U1 f d s=some s'->(∀x∈d,GV U1 x)->∃j,s'.cl=s.cl++j/\s'.rw=s.rw/\Mo s s'/\(MI m U1 s->MI m U1 s')/\∀σs a i r,qg σs f (j++a)=some (i,r)->r=a/\aH (VM m U1 σs s') d i:=by
 intro f;induction f with
 |nil=>
  intro d s s' h g;cases d with
  |nil=>simp only[HN,aw] at h;subst h;refine ⟨[],by simp,rfl,Mo.refl s,id,λσs a i r b=>?_⟩;simp only[List.nil_append,qg,aw,ba] at b;obtain ⟨rfl,rfl⟩:=b;exact ⟨rfl,.nil⟩
  |cons x d=>grind [HN]
 |cons p f ih=>
  intro d s s' h g;cases d with
  |nil=>grind [HN]
  |cons x d=>
   simp only[HN] at h;split at h
   ·rename_i s1 l;obtain ⟨o,O,P,q,t,u⟩:=mRO_ok l (g x (pe ..));obtain ⟨v,Q,R,k,z,A⟩:=ih h λy b=>g y (pG _ b);refine ⟨o++v,by grind,by grind,q.trans k,λI=>z (t I),λσs a i r b=>?_⟩;rw[Tz] at b;simp only[qg] at b;split at b
    ·rename_i y E G;obtain ⟨rfl,c1⟩:=u σs _ y E G;split at b
     ·rename_i K S L;simp only[aw,ba] at b;obtain ⟨rfl,rfl⟩:=b;obtain ⟨e,N⟩:=A σs _ _ _ L;exact ⟨e,.cons (c1.mono k) N⟩
     grind
    grind
   simp_all
end
end Go.Abs
end
section
namespace Go.Abs
noncomputable section
variable[Gl][Y:Ty]
def tJ(x y:TB):Prop:=(∃(i:Nat)(l:List (TT i))(d e a b:Nat),x=.row i l d e/\y=.row i l a b)∨(∃(j:Nat)(st:Bool)(l:List (Int×TT j))(v f:Nat),x=.mp j st l v/\y=.mp j st l f)
def PC.rw:PC->Bool
 |.h ..=>false
 |_=>true
variable{m:Nat}{U U1 σs:TH}{s s':MS}
theorem Yp (hg:∀(b:Nat) w cs,U1[b]? = some (.cells w cs)→∀p∈cs,GC U1 p.2):∀{v:List PC} {s s':MS},Ew m U U1 v s=some s' →
  ∃ L Lc, s'.rw = s.rw ++ L ∧ s'.cl = s.cl ++ Lc ∧ Mo s s' ∧ (MI m U1 s → MI m U1 s') ∧ (∀ p ∈ v, p.blk < m) ∧
   (∀f d E r,cd f v (L++d)=some (E,r)→r=d∧∀b:Nat,((∀p∈v,p.rw=true→p.blk≠b)∧E[b]? = f[b]?)∨∃x y,U1[b]? = some x∧E[b]? = some y∧tJ x y) ∧
   (∀σs f d U' r,fA σs v f (Lc++d)=some (U',r)→(∀(b:Nat) w cs w1 t,f[b]? = some (.cells w cs)→U1[b]? = some (.cells w1 t)→cs.length=t.length)→r=d ∧
    (∀(b j:Nat) p,PC.h b j p∈v→∃w cs O k x y,U1[b]? = some (.cells w cs)∧U'[b]? = some (.cells O k)∧cs[j]? = some x∧k[j]? = some y∧CM m U1 σs s' x.2 y.2) ∧
    (∀(b:Nat) w cs,f[b]? = some (.cells w cs)→∃O k,U'[b]? = some (.cells O k)∧∀j:Nat,(∀p,PC.h b j p∉v)→k[j]? = cs[j]?)):=by
 intro v
 induction v with
 | nil =>
  intro s s' h
  simp only [Ew,aw] at h
  subst h
  refine ⟨[],[],by simp,by simp,Mo.refl s,id,by simp,fun f d E r h=>?_,fun σs f d U' r h _=>?_⟩
  ·simp only [List.nil_append,cd,aw,ba] at h
   simp_all
  ·simp only [List.nil_append,fA,aw,ba] at h
   grind
 | cons p v ih =>
  intro s s' h
  cases p with
  | h b j p =>
   simp only [Ew] at h
   split at h
   ·rename_i w1 t N z
    split at h
    ·rename_i x hx
     split at h
     ·rename_i s1 h1
      obtain ⟨L1,a1,a2,a3,a4,a5⟩:=Mn h1 (hg b w1 t N x (yl hx))
      obtain ⟨L,P,S,T,K,Q,b5,W,Z⟩:=ih h
      refine ⟨L,L1++P,by grind,by grind,a3.trans K,fun I=>Q (a4 I),fun q o=>?_,fun f d E r h=>?_,fun σs f d U' r h hl=>?_⟩
      ·rcases me.1 o with rfl | o
       ·exact yh.mp z
       grind
      ·grind [cd,PC.rw]
      ·rw [Tz] at h
       simp only [fA] at h
       split at h
       ·rename_i y r' w0 ad h2 h3
        obtain ⟨rfl,c1⟩:=a5 σs _ y r' h2
        have av:=hl b w0 ad w1 t h3 N
        obtain ⟨e,d1,d2⟩:=Z σs _ d U' r h fun u w cs w2 ax A e2=>by
         grind
        refine ⟨e,fun u j' p' hp=>?_,fun u w cs A=>?_⟩
        ·by_cases a0:∃q,PC.h u j' q∈v
         ·grind
         ·rcases me.1 hp with A | hp
          ·simp only [PC.h.injEq] at A
           obtain ⟨rfl,rfl,rfl⟩:=A
           obtain ⟨O,k,e2,e3⟩:=d2 u _ _ (Gu h3)
           refine ⟨w1,t,O,k,x,(w0+1,y),N,e2,hx,?_,c1.mono K⟩
           grind
          grind
        ·by_cases g:u=b
         ·subst g
          rw [h3] at A
          simp only [aw,TB.cells.injEq] at A
          grind [Gu]
         ·obtain ⟨O,k,e2,e3⟩:=d2 u w cs (by grind)
          grind
       grind
     grind
    grind
   grind
  | w b i =>
   simp only [Ew] at h
   split at h
   ·rename_i i0 l0 a6 a7 N z
    split at h
    ·rename_i a ha
     obtain ⟨e,rfl⟩:=OX ha
     subst e
     obtain ⟨L,P,S,T,K,Q,b5,W,Z⟩:=ih h
     refine ⟨_::L,P,by rw [S,Tz]; rfl,T,⟨K.Kf,K.fz⟩,fun I=>Q ⟨I.ge,I.fz⟩,fun q o=>?_,fun f d E r h=>?_,fun σs f d U' r h hl=>?_⟩
     ·rcases me.1 o with rfl | o
      ·exact yh.mp z
      grind
     ·simp only [List.cons_append,cd,K_] at h
      split at h
      ·rename_i l j l1 a8 a9 R A
       simp only [aw] at R
       subst R
       split at h
       ·obtain ⟨e,c1⟩:=W _ d E r h
        refine ⟨e,fun u=>?_⟩
        rcases c1 u with ⟨c1,G⟩ | c1
        ·by_cases g:u=b
         ·subst g
          rw [Gu A] at G
          exact .inr ⟨_,_,N,G,.inl ⟨_,_,_,_,_,_,rfl,rfl⟩⟩
         ·rw [Vz g] at G
          refine .inl ⟨fun q o hr=>?_,G⟩
          rcases me.1 o with rfl | o
          ·exact fun e=>g e.symm
          grind
        grind
       grind
      grind
     grind [fA]
    grind
   grind
  | m b i st =>
   simp only [Ew] at h
   split at h
   ·rename_i i0 af l0 v0 N z
    split at h
    ·rename_i a ak ha
     obtain ⟨e,rfl⟩:=xF ha
     subst e
     have:st=af:=eq_of_beq ak
     subst this
     obtain ⟨L,P,S,T,K,Q,b5,W,Z⟩:=ih h
     refine ⟨_::L,P,by rw [S,Tz]; rfl,T,⟨K.Kf,K.fz⟩,fun I=>Q ⟨I.ge,I.fz⟩,fun q o=>?_,fun f d E r h=>?_,fun σs f d U' r h hl=>?_⟩
     ·rcases me.1 o with rfl | o
      ·exact yh.mp z
      grind
     ·simp only [List.cons_append,cd,K_] at h
      split at h
      ·rename_i l j0 bc l1 v1 R A
       simp only [aw] at R
       subst R
       obtain ⟨e,c1⟩:=W _ d E r h
       refine ⟨e,fun u=>?_⟩
       rcases c1 u with ⟨c1,G⟩ | c1
       ·by_cases g:u=b
        ·subst g
         rw [Gu A] at G
         exact .inr ⟨_,_,N,G,.inr ⟨_,_,_,_,_,rfl,rfl⟩⟩
        ·rw [Vz g] at G
         refine .inl ⟨fun q o hr=>?_,G⟩
         rcases me.1 o with rfl | o
         ·exact fun e=>g e.symm
         grind
       grind
      grind
     grind [fA]
    grind
   grind
theorem Yx (hg:∀(b:Nat) w cs,U1[b]? = some (.cells w cs)→∀p∈cs,GC U1 p.2):∀{f:List NB} {b:Nat} {s s':MS},DD m U1 b f s=some s' →
  ∃ L Z, s'.rw = s.rw ++ L ∧ s'.cl = s.cl ++ Z ∧ Mo s s' ∧ (MI m U1 s → MI m U1 s') ∧
   (∀d l r,dA f (L++d)=some (l,r)→r=d∧∀(k:Nat) nb,f[k]? = some nb→(∀u,nb≠.cells u)→∃j x y,nI (b+k) s'.ρ=some j∧U1[j]? = some x∧l[k]? = some y∧tJ x y) ∧
   (∀σs g d l,dX σs f g (Z++d)=some l→∀(k:Nat) nb,f[k]? = some nb →
    (∀u,nb=.cells u→∃j w cs ys,nI (b+k) s'.ρ=some j∧U1[j]? = some (.cells w cs)∧l[k]? = some (.cells 0 ys)∧aH (CM m U1 σs s') (cs.map Prod.snd) (ys.map Prod.snd)) ∧
    ((∀u,nb≠.cells u)→l[k]? = g[k]?)):=by
 intro f
 induction f with
 | nil =>
  intro b s s' h
  simp only [DD,aw] at h
  subst h
  refine ⟨[],[],by simp,by simp,Mo.refl s,id,fun d l r h=>?_,fun σs g d l h k nb hk=>by grind⟩
  grind [dA]
 | cons nb f ih =>
  intro b s s' h
  have sh:∀k:Nat,b+(k+1)=b+1+k:=fun k=>by omega
  cases nb with
  | cells u =>
   simp only [DD] at h
   split at h
   ·rename_i j o
    split at h
    ·rename_i w cs v
     split at h
     ·rename_i s1 h1
      obtain ⟨L1,a1,a2,a3,a4,a5⟩:=Ow h1 (fun x hx=>by
       grind)
      obtain ⟨L,z,K,N,q,A,O,P⟩:=ih h
      refine ⟨L,L1++z,by grind,by grind,a3.trans q,fun I=>A (a4 I),fun d l r h=>?_,fun σs g d l h k nb hk=>?_⟩
      ·simp only [dA] at h
       grind
      ·rw [Tz] at h
       cases g with
       | nil=>grind [dX]
       | cons b0 g =>
        simp only [dX] at h
        split at h
        ·rename_i xs r' E
         split at h
         ·rename_i t Q
          simp only [aw] at h
          subst h
          obtain ⟨rfl,c1⟩:=a5 σs _ _ _ E
          have c2:=P σs g d t Q
          cases k with
          | zero =>
           simp only [List.getElem?_cons_zero,aw] at hk
           subst hk
           refine ⟨fun ad e=>?_,fun R=>absurd rfl (R u)⟩
           refine ⟨j,w,cs,_,q.Kf _ _ (a3.Kf _ _ o),v,by rw [List.getElem?_cons_zero],?_⟩
           rw [Uc]
           have:(Prod.snd∘fun x:TC=>(0,x))=id:=rfl
           rw [this,List.map_id]
           grind [aH.mono,CM.mono]
          | succ k =>
           grind
         grind
        grind
     grind
    grind
   grind
  | row i =>
   simp only [DD] at h
   split at h
   ·rename_i j o
    split at h
    ·rename_i i0 l0 af ak v
     split at h
     ·rename_i a S
      obtain ⟨e,rfl⟩:=OX S
      subst e
      obtain ⟨L,z,K,N,q,A,O,P⟩:=ih h
      refine ⟨_::L,z,by rw [K,Tz]; rfl,N,⟨q.Kf,q.fz⟩,fun I=>A ⟨I.ge,I.fz⟩,fun d l r h=>?_,fun σs g d l h k nb hk=>?_⟩
      ·simp only [List.cons_append,dA,K_] at h
       split at h
       ·rename_i a' t r' G E
        simp only [aw,ba] at h G
        subst G
        obtain ⟨rfl,rfl⟩:=h
        obtain ⟨e,c1⟩:=O d t _ E
        refine ⟨e,fun k nb hk R=>?_⟩
        cases k with
        | zero=>exact ⟨j,_,_,q.Kf _ _ o,v,by rw [List.getElem?_cons_zero],.inl ⟨_,_,_,_,_,_,rfl,rfl⟩⟩
        | succ k=>grind
       grind
      ·cases g with
       | nil=>grind [dX]
       | cons b0 g =>
        simp only [dX] at h
        split at h
        ·rename_i t Q
         simp only [aw] at h
         grind
        grind
     grind
    grind
   grind
  | mp i st =>
   simp only [DD] at h
   split at h
   ·rename_i j o
    split at h
    ·rename_i i0 T l0 v0 v
     split at h
     ·rename_i a W S
      obtain ⟨e,rfl⟩:=xF S
      subst e
      have:st=T:=eq_of_beq W
      subst this
      obtain ⟨L,z,K,N,q,A,O,P⟩:=ih h
      refine ⟨_::L,z,by rw [K,Tz]; rfl,N,⟨q.Kf,q.fz⟩,fun I=>A ⟨I.ge,I.fz⟩,fun d l r h=>?_,fun σs g d l h k nb hk=>?_⟩
      ·simp only [List.cons_append,dA,K_] at h
       split at h
       ·rename_i a' t r' G E
        simp only [aw,ba] at h G
        subst G
        obtain ⟨rfl,rfl⟩:=h
        obtain ⟨e,c1⟩:=O d t _ E
        refine ⟨e,fun k nb hk R=>?_⟩
        cases k with
        | zero=>exact ⟨j,_,_,q.Kf _ _ o,v,by rw [List.getElem?_cons_zero],.inr ⟨_,_,_,_,_,rfl,rfl⟩⟩
        | succ k=>grind
       grind
      ·cases g with
       | nil=>grind [dX]
       | cons b0 g =>
        simp only [dX] at h
        split at h
        ·rename_i t Q
         simp only [aw] at h
         subst h
         have c2:=P σs g d t Q
         cases k with
         | zero =>
          grind
         | succ k =>
          grind
        grind
     grind
    grind
   grind
end
end Go.Abs
end
section
namespace Go.Abs
noncomputable section
variable[Gl][Y:Ty]
variable{U U1 F:TH}{σD U1D:aq}{s:MS}{ct:CT}
theorem tJ.er{x y:TB}(h:tJ x y):y.er=x.er:=by rcases h with ⟨i,l,z,A,o,u,rfl,rfl⟩ | ⟨j,st,l,v,E,rfl,rfl⟩ <;> rfl
theorem GI{j:Nat}{st:Bool}:∀(l:List (Int×TT j))(i:Nat),((yJ (Jx j st) i l).all λe=>e.2.1.low 0)=true:=by
 intro l;induction l with
 |nil=>intro i;rfl
 |cons p l ih=>
  intro i;obtain ⟨k,a⟩:=p;simp only[yJ,List.all_cons,ih,IM];unfold Jx;split
  ·have:∀b:List C,D.low.cF 0 (b.map .c)=true:=by
    intro b;induction b with
    |nil=>rfl
    |cons c b ih=>simp only[oK,D.low.cF,D.low,ih,IM]
   exact this _
  ·rfl
theorem aH.Fs{α o:Type}{R:α->o->Prop}:∀{l:List α}{i:List o},l.length=i.length->(∀(j:Nat) a b,l[j]? = some a->i[j]? = some b->R a b)->aH R l i:=by
 intro l;induction l with
 |nil=>
  intro i h _;cases i with
  |nil=>exact .nil
  |cons _ _=>simp at h
 |cons a l ih=>
  intro i h u;cases i with
  |nil=>simp at h
  |cons b i=>exact .cons (u 0 a b rfl rfl) (ih (by simp_all) λj x y z A=>u (j+1) x y z A)
theorem aH.map{α i j o:Type}{R:j->o->Prop}{f:α->j}{g:i->o}{u:α->i->Prop}(h:∀a b,u a b->R (f a) (g b)){l:List α}{z:List i}(a:aH u l z):aH R (l.map f) (z.map g):=by
 induction a with
 |nil=>exact .nil
 |cons x _ ih=>exact .cons (h _ _ x) ih
theorem GC.low{x:TC}(g:GC U x):x.er.low U.length=true:=by
 cases x with
 |own i c v n=>
  obtain ⟨blk,j,_⟩:=g;simp only[TC.er,D.low,bb]
  grind
 |op i c v n k a off=>
  obtain ⟨blk,j,_⟩:=g;simp only[TC.er,D.low,bb]
  grind
 |os i c v n o len=>
  obtain ⟨blk,j,_⟩:=g;simp only[TC.er,D.low,bb]
  grind
 |ap c off len sz k=>simp only[TC.er,D.low,bb];exact g
 |d x=>exact g
 |DQ f u=>exact yx g
 |_=>rfl
def gS(m:Nat)(s:MS)(b:Nat):Nat:=if b<m then b else (nI b s.ρ).getD 0
theorem Bd.Kf{m b j:Nat}(h:Bd m s b j):gS m s b=j:=by
 rcases h with ⟨o,i⟩ | ⟨o,i⟩
 ·rw[gS,if_pos o,i]
 ·rw[gS,if_neg (by omega),i];rfl
def BF(U U1 σs F:TH)(s:MS)(i:Nat):Prop:=∃x y,U1[gS U.length s i]? = some x/\F[i]? = some y /\
 ((∃w e f d,x=.cells w e/\y=.cells f d/\aH (λa b=>CM U.length U1 σs s a b∨(a=b/\GC U a)) (e.map Prod.snd) (d.map Prod.snd))∨tJ x y)
structure MX (U U1 σs F:TH) (s:MS) (n:Nat):Prop where
 len:F.length=U.length+n
 RG:σs.length=F.length
 sr:SR σs F
 bf:∀i,i<F.length->BF U U1 σs F s i
 mi:MI U.length U1 s
 nd:wP (s.ρ.map Prod.snd)=true
 fz:∀b∈s.fz,U.length<=b/\b∉s.ρ.map Prod.snd
 kn:∀i,U.length<=i->i<F.length->∃b',nI i s.ρ=some b'
theorem tN{i o:Nat}:∀{l:List (Nat×Nat)},nI i l=some o->(i,o)∈l:=by
 intro l;induction l with
 |nil=>grind [nI]
 |cons p l ih=>grind [nI,Nat.eq_of_beq_eq_true]
theorem Ql:∀{l:List (Nat×Nat)},wP (l.map Prod.snd)=true->∀i j o,(i,o)∈l->(j,o)∈l->i=j:=by
 intro l;induction l with
 |nil=>simp_all
 |cons p l ih=>
  intro h i j o a b;simp only[oK,wP,bJ,ic,yBS] at h;have no:∀k,(k,p.2)∈l->False:=λk hk=>h.1 p.2 (jJ.2 ⟨_,hk,rfl⟩) (Nat.beq_refl _)
  grind
section
variable{σs:TH}{n:Nat}(X:MX U U1 σs F s n)(H1:RH U1 U1D)
include X H1
theorem MX.rn:Rn U.length U1D (F.map TB.er) (gS U.length s) (λb=>b∈s.fz):={
 le:=by grind [MX.len]
 id:=λi u=>by rw[gS,if_pos u]
 inj:=λi j u E e=>by
  rw[A_] at u E;unfold gS at e;split at e
  ·rename_i h1;split at e
   ·exact e
   ·rename_i h2;obtain ⟨o,z⟩:=X.kn j (by omega) E;rw[z] at e;have:=(X.mi.ge _ (tN z)).2
    grind
  ·rename_i h1;obtain ⟨o,z⟩:=X.kn i (by omega) u;split at e
   ·rw[z] at e;have:=(X.mi.ge _ (tN z)).2
    grind
   ·obtain ⟨O,A⟩:=X.kn j (by omega) E;rw[z,A] at e;simp only[Option.getD_some] at e;subst e;exact Ql X.nd i j o (tN z) (tN A)
 fr:=λi u K=>by
  rw[A_] at u;obtain ⟨h1,h2⟩:=X.fz _ K;unfold gS at h1 h2;split at h1
  ·omega
  ·rename_i G;rw[if_neg G] at h2;obtain ⟨o,z⟩:=X.kn i (by omega) u;rw[z] at h2;exact h2 (jJ.2 ⟨_,tN z,rfl⟩)
 row:=λb L=>by obtain ⟨i,l,Q,R,h⟩:=X.mi.fz b L;exact ⟨i,l,H1.row h⟩
 sz:=λi u=>by
  rw[A_] at u;obtain ⟨x,y,h1,h2,W⟩:=X.bf i u;refine ⟨x.er,y.er,by rw[H1.eqD,jX,h1];rfl,by simp_all,?_⟩
  grind [aH.len,List.length_map,TB.er,Ob.sz,tJ.er] }
theorem MX.cell{x y:TC}(c:CM U.length U1 σs s x y):c_ U1D (F.map TB.er) (gS U.length s) (λb=>b∈s.fz) x.er y.er:=by
 have N:=X.rn H1;rcases c with ⟨c1,c2,_⟩ | ⟨i,b,v,l,O,rfl,o,u,z⟩ | ⟨i,b,Q,v,l0,Z,j,lv,l,O,rfl,o,u,rfl,h5⟩ | ⟨b,Q,off,sz,rfl,o,rfl,z⟩ | ⟨b,Q,rfl,o,rfl,z⟩
 ·grind [c_.le,c_.data]
 ·rw[z];exact c_.cU N o (H1.row u)
 ·have R:=X.sr.row b j l lv O h5;have A:=(jy.1 R).1;obtain ⟨x,y,E,G,K⟩:=X.bf b A;have q:=o.Kf;subst q;rw[u] at E;rw[R] at G;simp only[aw] at E G;subst E G;rcases K with ⟨w,cs,w',ad,e,_⟩ | K
  ·simp at e
  ·rcases K with ⟨i',l',_,_,_,_,L,W⟩ | ⟨_,_,_,_,_,L,_⟩
   ·simp only[TB.row.injEq] at L W;obtain ⟨rfl,e6,_,_⟩:=L;obtain ⟨rfl,e7,_,_⟩:=W;cases e6;cases e7;exact c_.sl N (by simp_all)
   simp_all
 ·have:=c_.ptr (F:=λb=>b∈s.fz) N (i:=b) (off:=off) (sz:=sz) (by grind [MX.RG]);rw[o.Kf] at this;exact this
 ·have:=c_.mp (F:=λb=>b∈s.fz) N (i:=b) (by grind [MX.RG]);rw[o.Kf] at this;exact this
theorem MX.rnH:Oq U.length U1D (F.map TB.er) (gS U.length s) (λb=>b∈s.fz):={
 toRn:=X.rn H1
 ob:=λi A=>by
  rw[A_] at A;obtain ⟨x,y,h1,h2,E⟩:=X.bf i A;refine ⟨x.er,y.er,by rw[H1.eqD,jX,h1];rfl,by simp_all,?_⟩;rcases E with ⟨w,O,Q,G,rfl,rfl,o⟩ | o
  ·refine ⟨_,rfl,?_⟩;have:=aH.map (R:=c_ U1D (F.map TB.er) (gS U.length s) (λb=>b∈s.fz)) (f:=TC.er) (g:=TC.er) (λa b h=>?_) o
   ·rw[Uc,Uc] at this;exact this
   ·rcases h with h | ⟨rfl,h⟩
    ·exact X.cell H1 h
    ·exact c_.low (X.rn H1) h.low
  ·rw[o.er];rcases o with ⟨j,l,W,Z,K,L,rfl,rfl⟩ | ⟨j,st,l,v,v',rfl,rfl⟩
   ·refine ⟨_,rfl,aH.Fs rfl λk a b u z=>?_⟩;rw[u] at z;simp only[aw] at z;subst z;rw[jX,cu] at u;obtain ⟨c,_,rfl⟩:=u;exact c_.data (X.rn H1) rfl
   ·exact ⟨rfl,GI l 0⟩ }
theorem MX.val{v y:TV}{d:D}(h:VM U.length U1 σs s v y)(i:RT v d):c_ U1D (F.map TB.er) (gS U.length s) (λb=>b∈s.fz) d (eD y):=by
 have cell:∀{x y:TC}{d:D},CM U.length U1 σs s x y->RC x d->c_ U1D (F.map TB.er) (gS U.length s) (λb=>b∈s.fz) d y.er:=λ{x y d} c r=>by
  rcases r with rfl | rfl
  ·exact c_.le (λ_ _ _ _ _ _=>.any _) (X.cell H1 c)
  ·exact X.cell H1 c
 cases v with
 |c x => cases y with
  |c y=>exact cell h i
  |_=>exact h.elim
 |agg u => cases y with
  |agg K=>
   obtain ⟨ds,rfl,i⟩:=i;refine c_.agg (aH.Fs ?_ λj a b z o=>?_)
   ·rw[<-i.len,A_];exact aH.len h
   ·rw[jX,cu] at o;obtain ⟨y,A,rfl⟩:=o;obtain ⟨x,L,O⟩:=aH.get' h j y A;obtain ⟨Q,E,G⟩:=i.get' j a z
    grind
  |_=>exact h.elim
 |aT u=>exact h.elim
theorem MX.valL{vs j:List TV}{ds:List D}(h:aH (VM U.length U1 σs s) vs j)(i:fo vs ds):aH (c_ U1D (F.map TB.er) (gS U.length s) (λb=>b∈s.fz)) ds (j.map eD):=by
 induction h generalizing ds with
 |nil=>cases i;exact .nil
 |cons h _ ih=>
  cases i with
  |cons r i=>exact .cons (X.val H1 h r) (ih i)
theorem MX.vals{vs j:List TV}{ds:List D}(h:aH (VM U.length U1 σs s) vs j)(o:fo vs ds):c_ U1D (F.map TB.er) (gS U.length s) (λb=>b∈s.fz) (one ds) (one (j.map eD)):=by
 have i:aH (c_ U1D (F.map TB.er) (gS U.length s) (λb=>b∈s.fz)) ds (j.map eD):=by
  induction h generalizing ds with
  |nil=>cases o;exact .nil
  |cons h _ ih=>
   cases o with
   |cons r o=>exact .cons (X.val H1 h r) (ih o)
 generalize j.map eD=es at i ⊢;cases i with
 |nil=>exact c_.aT .nil
 |cons h r=>
  cases r with
  |nil=>exact h
  |cons u r=>exact c_.aT (.cons h (.cons u r))
end
end
end Go.Abs
end
section
namespace Go.Abs
noncomputable section
variable[Gl][Y:Ty]
variable{U U1 F:TH}{σD U1D:aq}{ct:CT}
theorem Xn{b:Nat}{d:List PC}(h:∀p∈d,p.rw=true->p.blk≠b):YN (d.map PC.pl) b/\notM (d.map PC.pl) b:=by
 refine ⟨λi a=>?_,λj st a=>?_⟩
 ·rw[jJ] at a;obtain ⟨p,f,e⟩:=a;cases p with
  |w g k=>simp only[PC.pl,Pl.w.injEq] at e;exact h _ f rfl e.1
  |h=>grind [PC.pl]
  |m=>grind [PC.pl]
 ·rw[jJ] at a;obtain ⟨p,f,e⟩:=a;cases p with
  |m g k=>simp only[PC.pl,Pl.m.injEq] at e;exact h _ f rfl e.1
  |h=>grind [PC.pl]
  |w=>grind [PC.pl]
theorem XC{b j:Nat}{a:List PC}(h:∀p,PC.h b j p∉a):Ws (a.map PC.pl) b j:=by
 intro c d;rw[jJ] at d;obtain ⟨p,f,e⟩:=d;cases p with
 |h g i k=>grind [PC.pl]
 |w=>grind [PC.pl]
 |m=>grind [PC.pl]
theorem YX{rs rv:List TV}{x:dT ct.bN}{ds:List jU}{s1 s2 s:MS}(hs:dI (ct.pl.map PC.pl) 0 U U1=true)(h1:HN U.length U1 ct.out rs ⟨[],[],[],[]⟩=some s1)(h2:Ew U.length U U1 ct.pl s1=some s2)(h3:DD U.length U1 U.length ct.nb s2=some s)
  (Q:(wP (s.ρ.map Prod.snd)&&(s.fz.all (λb=>Nat.ble U.length b&&!((s.ρ.map Prod.snd).any (Nat.beq b)))&&s.ρ.all λp=>Nat.blt p.1 (U.length+ct.nb.length)))=true) (h:uu ct.bN (s.rw++s.cl)=some x)
  (L:Laid ct U ds rv F) (ak:gL ct.bN x=ds) (H:RH U σD) (H1:RH U1 U1D) (E:Ext U U1) (g:∀v∈rs,GV U1 v) :
  ∃σs,MX U U1 σs F s ct.nb.length/\aH (VM U.length U1 σs s) rs rv:=by
 simp only[bJ,gH] at Q;obtain ⟨av,ax,bc⟩:=Q;have hS:=Wb H hs E;have hg:∀(b:Nat) w d,U1[b]? = some (.cells w d)->∀p∈d,GC U1 p.2:=λb w d K p hp=>(H1.hg b w d K p hp).1;obtain ⟨La,a1,a2,a3,a4,a5⟩:=WS h1 g;obtain ⟨L2,Lb,b1,b2,b3,b4,b5,b6,b7⟩:=Yp hg h2;obtain ⟨L3,Lc,c1,c2,c3,c4,c5,c6⟩:=Yx hg h3;have hq:ds=L2++(L3++(La++(Lb++(Lc++[])))):=by grind [RD]
 clear ak;subst hq;have Ro:=gn L.h1 H;have C:=kD L.h4;have S:=L.sr;obtain ⟨n1,_,_⟩:=yW L.h5;obtain ⟨e1,r1⟩:=b6 U _ _ _ L.h1;have q2:=L.h2;rw[e1] at q2;obtain ⟨e2,r2⟩:=c5 _ _ _ q2;have q3:=L.h3;rw[e2] at q3;obtain ⟨e3,r3⟩:=a5 _ _ _ _ q3;have q4:=L.h4;rw[e3] at q4;have hl:∀(b:Nat) w d w1 t,L.ib[b]? = some (.cells w d)->U1[b]? = some (.cells w1 t)->d.length=t.length:=λb w d w1 t x y=>by
  obtain ⟨N,z,o⟩:=hS b _ ((Ro.cells b w d).2 x);obtain ⟨w2,a0,rfl,hl,_⟩:=o
  grind
 obtain ⟨e4,r4,r5⟩:=b7 _ _ _ _ _ q4 hl;have q5:=L.h5;rw[e4] at q5;have r6:=c6 _ _ _ _ q5;have a6:L.U2.length=U.length:=by rw[C.len,Ro.len]
 have W:F.length=U.length+ct.nb.length:=by grind [Laid.fl]
 have a7:∀k:Nat,F[U.length+k]? = L.l[k]?:=λk=>by grind [Laid.fa]
 refine ⟨L.ib++L.nb,⟨W,S.len.symm,S,λi hi=>?_,?_,av,λb K=>?_,λi hi bd=>?_⟩,aH.mono (λ_ _=>VM.mono (b3.trans c3)) r3⟩
 ·rcases uS i U.length with f | a8
  ·have Z:gS U.length s i=i:=by rw[gS,if_pos f]
   have K:=dB f;obtain ⟨N,x1,o⟩:=hS i _ K;unfold BF;rw[Z];have rm:(∀w d,U[i]≠.cells w d)->∃x y,U1[i]? = some x/\F[i]? = some y/\tJ x y:=λhn=>by
    rcases r1 i with ⟨O,t2⟩ | ⟨x,y,O,t2,R⟩
    ·have hr:L.ib[i]? = some U[i]:=by grind
     have hF:F[i]? = some U[i]:=by rw[L.lt H f];exact C.same i _ hr hn
     obtain ⟨nw,nm⟩:=Xn O;refine ⟨N,_,x1,hF,?_⟩;cases r:U[i] with
     |cells w d=>grind
     |row i0 l lv cv=>rw[r] at o;obtain ⟨l1,be,bh,rfl,o⟩:=o;obtain ⟨rfl,rfl,rfl⟩:=o nw;exact .inl ⟨_,_,_,_,_,_,rfl,rfl⟩
     |mp j st l v=>rw[r] at o;obtain ⟨j1,bi,l1,T,rfl,o⟩:=o;have:=o nm;rw[this];exact .inr ⟨_,_,_,_,_,rfl,rfl⟩
    ·refine ⟨x,y,O,?_,R⟩;rw[L.lt H f];refine C.same i y t2 λw d e=>?_;subst e;rcases R with ⟨_,_,_,_,_,_,_,e⟩ | ⟨_,_,_,_,_,_,e⟩ <;> simp at e
   cases r:U[i] with
   |row i0 l lv cv=>grind
   |mp j st l v=>grind
   |cells w d=>
    rw[r] at o K;obtain ⟨w1,t,rfl,l1,o⟩:=o;have hr:=(Ro.cells i w d).1 K;obtain ⟨w',a9,O,t2⟩:=r5 i w d hr;obtain ⟨w2,a0,R,_,t4,_⟩:=C.Zz i w d hr;rw[O] at R;simp only[aw,TB.cells.injEq] at R;obtain ⟨rfl,rfl⟩:=R;refine ⟨_,_,x1,by rw[L.lt H f];exact O,.inl ⟨w1,t,w',a9,rfl,rfl,aH.Fs (by grind) λj a b ha u=>?_⟩⟩;rw[jX,cu] at ha u;obtain ⟨p,ha,rfl⟩:=ha;obtain ⟨q,u,rfl⟩:=u;by_cases ad:∃c,PC.h i j c∈ct.pl
    ·obtain ⟨c,Q⟩:=ad;obtain ⟨w3,bt,w4,bu,x,y,u1,u2,u3,u4,u5⟩:=r4 i j c Q;rw[x1] at u1;rw[O] at u2;simp only[aw,TB.cells.injEq] at u1 u2;obtain ⟨_,rfl⟩:=u1;obtain ⟨_,rfl⟩:=u2;rw[ha] at u3;rw[u] at u4;simp only[aw] at u3 u4;subst u3 u4;exact .inl (u5.mono c3)
    ·have af:∀c,PC.h i j c∉ct.pl:=λc Q=>ad ⟨c,Q⟩;have hj:j<d.length:=by grind
     have h0:=dB hj;have T:=o j _ p h0 ha (XC af);have v2:=t2 j af;rw[u,h0] at v2;simp only[aw] at v2;refine .inr ⟨by grind,?_⟩;rw[T];exact (H.hg i w d K _ (yl h0)).1
  ·obtain ⟨k,rfl⟩:=yBs a8;have hk:k<ct.nb.length:=by omega
   have P:=dB hk;obtain ⟨u1,u2⟩:=r6 k _ P;unfold BF;rw[a7];by_cases G:∃A,ct.nb[k]=.cells A
   ·obtain ⟨A,e⟩:=G;obtain ⟨b',w,d,ys,T,v2,v3,v4⟩:=u1 A e;rw[gS,if_neg (by omega),T];exact ⟨_,_,v2,v3,.inl ⟨w,d,0,ys,rfl,rfl,aH.mono (λ_ _ h=>.inl h) v4⟩⟩
   ·have hn:∀A,ct.nb[k]≠.cells A:=λA e=>G ⟨A,e⟩;obtain ⟨b',x,y,T,v2,v3,v4⟩:=r2 k _ P hn;rw[gS,if_neg (by omega),T,u2 hn]
    grind
 ·exact c4 (b4 (a4 ⟨by simp,by simp⟩))
 ·have:=ax b K;simp only[bJ,ic,yBS] at this;exact ⟨DM this.1,λhm=>this.2 b hm (Nat.beq_refl b)⟩
 ·obtain ⟨k,rfl⟩:=yBs hi;have hk:k<ct.nb.length:=by omega
  have P:=dB hk;by_cases G:∃A,ct.nb[k]=.cells A
  ·obtain ⟨A,e⟩:=G
   grind
  grind
theorem VK{rs rv:List TV}{x:dT ct.bN}{ds:List jU}(h:UZ ct U U1 rs=some x)(L:Laid ct U ds rv F)(a:gL ct.bN x=ds)(H:RH U σD)(H1:RH U1 U1D)(E:Ext U U1)(g:∀v∈rs,GV U1 v) :
  ∃s σs,MX U U1 σs F s ct.nb.length/\aH (VM U.length U1 σs s) rs rv:=by
 unfold UZ at h;split at h
 ·simp at h
 rename_i hs;split at h
 ·simp at h
 rename_i s1 b;split at h
 ·simp at h
 rename_i i d;split at h
 ·simp at h
 rename_i s e;split at h
 rotate_left
 ·simp at h
 rename_i f;exact ⟨s,YX hs b d e f h L a H H1 E g⟩
theorem Ur{U U1:TH}{rs:List TV}{ct:CT}{x:dT ct.bN}:∀{cs:List CT}{y:qf cs},PA U U1 rs cs=some y->xA cs y=some ⟨ct,x⟩->UZ ct U U1 rs=some x:=by
 intro cs;induction cs with
 |nil=>grind
 |cons c cs ih=>
  intro y h hs;cases cs with
  |nil=>
   simp only[PA] at h;simp only[xA,aw,yB5] at hs
   grind
  |cons d cs=>
   simp only[PA] at h;split at h
   ·rename_i a f;simp only[aw] at h;subst h;simp only[xA,aw,yB5] at hs
    grind
   ·split at h
    ·rename_i b e;simp only[aw] at h;subst h;exact ih (y:=b) e hs
    simp_all
theorem zip3{U:TH}{vs:List TV}{ds:List D}(a:fo vs ds):(∀v∈vs,GV U v)->∀(i t:Nat)(x:RV)(p:Nat),dV t (zF i vs)=some (x,p)->∃d v,x=.v v/\lk t (jD i ds)=some d/\RT v d/\GV U v:=by
 induction a with
 |nil=>grind [zF,dV]
 |cons b _ ih=>
  intro g i t x p h;simp only[zF,dV] at h;simp only[jD,lk]
  grind
theorem fo.len{vs:List TV}{ds:List D}(a:fo vs ds):vs.length=ds.length:=by
 induction a with
 |nil=>rfl
 |cons _ _ ih=>simp[ih]
def cL.ok(P:Program)(B:cL):Prop:=∀(i:List CT)(j:FuncId)(o:List TV)(U:TH)(y:qf i)(ct:CT)(x:dT ct.bN)(rv:List TV)(U2:TH)(σD:aq)(ds:List D),B i j o U=some y->xA i y=some ⟨ct,x⟩->sH ct U x=some (rv,U2)->RH U σD->fo o ds->(∀v∈o,GV U v) ->
 bq P j=true/\Ok P j ds σD (one (rv.map eD)) (U2.map TB.er)
theorem cL.ok.inl{P:Program}{B:cL}(A:cL.ok P B)(S:wj)(H:List (Nat×Nat))(J:List (Nat×JH))(C:List (Nat×List CT))(n N:Nat)(X:KM)(E:BT):Tt ⟨P,S,H,J,C,n,N,B,X,E⟩:=by
 intro G K O U y ct x rv U2 σD ds h j i z o u;obtain ⟨Q,R⟩:=A G K O U y ct x rv U2 σD ds h j i z o u;obtain ⟨L⟩:=lh i;obtain ⟨W,Z,k3,k4,k5,k6⟩:=L.all z
 grind
def KM.ok(P:Program)(X:KM):Prop:=∀(ct:CT)(j:FuncId)(o:List TV)(U:TH)(rv:List TV)(U2:TH)(σD:aq)(ds:List D),X ct j o U=some (rv,U2)->RH U σD->fo o ds->(∀v∈o,GV U v) ->
 bq P j=true/\∃r i,RH U2 i/\RT (yM rv) r/\GV U2 (yM rv)/\Ext U U2/\Ok P j ds σD r i/\(∀b,b<σD.length->i[b]? = σD[b]?)
theorem KM.ok.two{P:Program}{X:KM}(i:KM.ok P X)(S:wj)(H:List (Nat×Nat))(J:List (Nat×JH))(C:List (Nat×List CT))(n N:Nat)(B:cL)(j:BT):ExOk ⟨P,S,H,J,C,n,N,B,X,j⟩:=i
theorem Yv{P:Program}{S:wj}{N:Nat}{B I:cL}{X:KM}{E:BT}(dF:P.follows .mixedOrders=true)(R:mb P S)(T:cL.ok P B)(W:cL.ok P I)(Z:KM.ok P X):cL.ok P (inl1 P S N B E I X):=by
 intro u gi G U y ct x rv U2 σD ds h g j l k o;cases u with
 |nil=>grind
 |cons e u=>
  simp only[inl1] at h;split at h
  ·exact T _ gi G U y ct x rv U2 σD ds h g j l k o
  split at h
  ·rename_i fn hg;split at h
   ·rename_i r hc;split at h
    ·rename_i K;simp only[bJ] at K;obtain ⟨L⟩:=lh j;have R0:Ref (zF 0 G) U (jD 0 ds) σD:=⟨l,λt x p h=>by
      obtain ⟨d,v,rfl,h1,h2,h3⟩:=zip3 k o 0 t x p h;exact ⟨d,h1,h2,h3⟩⟩
     refine ⟨K.1,?_⟩;refine oD hg hc (by rw[<-k.len];simp_all) ?_;refine (SI ⟨P,S,e.H,e.J,e.C,r.ntmps,N,I,X,E⟩ dF (wT (wB R)) ⟨W.inl _ _ _ _ _ _ _ _,Z.two _ _ _ _ _ _ _ _⟩ r.body 1 _ _ _ y _ _ h R0).gg λx' q a hP=>.inl ?_;obtain ⟨z,O,p1,_,p3,p4⟩:=hP;have fin:(match Eo (DX z O) r.results with | some rs=>PA U O rs (e::u) | none=>none)=some y->∃f ρ F,r.results.mapM (nJ q a)=some f/\Oq σD.length a (U2.map TB.er) ρ F/\(∀b,F b->σD.length<=b)/\c_ a (U2.map TB.er) ρ F (one f) (one (rv.map eD)):=by
      intro Q;split at Q
      ·rename_i rs A;obtain ⟨f,h5,h6,h7⟩:=HU p1 A;have h8:=Ur Q g;obtain ⟨s,σs,X,hv⟩:=VK h8 L rfl l p1.hh p3 h7;refine ⟨f,_,_,h5,by rw[l.len];exact X.rnH p1.hh,λb hb=>by rw[l.len];exact (X.fz b hb).1,X.vals p1.hh hv h6⟩
      simp_all
     cases x' with
     |exit i=>grind
     |normal=>grind
     |ret=>grind
    simp_all
   simp_all
  simp_all
theorem TM{n:Nat}{x:TC}(h:Ut n x=true):x≠.any:=λe=>by grind [Ut]
theorem My{U:TH}{x:TC}(h:Ut U.length x=true):GC U x:=by
 cases x with
 |d x=>exact h
 |own=>grind [Ut]
 |op=>grind [Ut]
 |ap=>grind [Ut]
 |os=>grind [Ut]
 |DQ=>grind [Ut]
 |_=>trivial
theorem exV_eD{n:Nat}{v:TV}{d:D}(h:Vy n v=true)(r:RT v d):d=eD v:=by
 cases v with
 |c x=>exact RT.c1 (TM h) r
 |agg a=>obtain ⟨ds,rfl,hd⟩:=r;simp only[Vy,gH] at h;rw[hd.eq λy b=>TM (h y b)];rfl
 |aT a=>grind [Vy]
theorem ZR{n:Nat}{v:TV}(h:Vy n v=true):nT v:=by
 cases v with
 |aT a=>grind [Vy]
 |_=>trivial
theorem exV_gv{U:TH}{v:TV}(h:Vy U.length v=true):GV U v:=by
 cases v with
 |c x=>exact My h
 |agg a=>simp only[Vy,gH] at h;exact λx b=>My (h x b)
 |aT a=>grind [Vy]
theorem XR{n:Nat}:∀{vs:List TV}{ds:List D},vs.all (Vy n)=true->fo vs ds->ds=vs.map eD:=by
 intro vs;induction vs with
 |nil=>intro ds _ h;cases h;rfl
 |cons v vs ih=>
  intro ds h a;cases a with
  |cons r a=>
   simp only[List.all_cons,bJ] at h
   grind [exV_eD]
theorem HJ{pl:List Pl}{U U1:TH}(h:dI pl 0 U U1=true):U.length<=U1.length:=by
 rcases uS U1.length U.length with a | b
 ·obtain ⟨blk,d,_⟩:=Am h U1.length _ (dB a)
  simp_all
 omega
theorem Lm{P:Program}{g:FuncId}{fn:Func}{y:mR}{fz:Bool}{ds:List D}{r:D}{U U2:aq}(hg:P.funcs[g]? = some fn)(z:jI P fn fz=some y)(A:ds.length<=y.ntmps)
  (h:Sem P y.body y.ntmps (jD 0 ds) U λx al U1=>(x=.normal∨x=.ret)/\∃a,y.results.mapM (nJ al U1)=some a/\U1=U2/\one a=r):Ok P g ds U r U2:=by
 unfold jI at z;split at z
 ·rename_i c hb;split at z
  ·rename_i ac rs h1 h2;simp only[aw] at z;subst z;dsimp only at h A;intro M Fz w u R hs K;refine calls_of_wp hg hb ?_;have A0:fU fn.ntmps U M Fz w (jD 0 ds) (u++Array.replicate (fn.ntmps-u.size) undef):=by
    refine ⟨by simp_all,λt d ht=>?_⟩;obtain ⟨_,W⟩:=Dy ds 0 t d ht;rw[Nat.sub_zero] at W;have L:t<u.size:=by grind
    exact ⟨u[t],by grind,K t d _ W (tc L)⟩
   refine h c h1 M Fz w { tmps:=u++Array.replicate (fn.ntmps-u.size) undef,defers:=[] } _ R A0 λx e i Z E M' ad hQ hd R' N EV hl=>?_;obtain ⟨hx,a,hm,rfl,rfl⟩:=hQ;have O:rs.mapM (JL (xq fn.ntmps e) i)=some a:=by
    have ak:∀(l:List (Nat×Option (Option Nat))) a,l.mapM (nJ e i)=some a->l.mapM (JL (xq fn.ntmps e) i)=some a:=by
     intro l;induction l with
     |nil=>simp_all
     |cons p l ih=>
      intro a h;rw[Qf] at h ⊢;cases G:nJ e i p with
      |none=>simp_all
      |some d=>
       rw[G] at h;have:JL (xq fn.ntmps e) i p=some d:=by
        obtain ⟨t,o⟩:=p;cases o with
        |none=>exact N.eE.2.2 t d G
        |some k=>
         simp only[nJ] at G;split at G
         ·rename_i b off sz Q;simp only[JL,N.eE.2.2 t _ Q];exact G
         simp_all
       rw[this];cases hr:l.mapM (nJ e i) with
       |none=>simp_all
       |some q=>simp_all
    simp_all
   obtain ⟨v,S,T⟩:=lB (P:=P) R' N.eE.1 h2 O;have post:Z.defers=[]/\∃v,(results fn Z.tmps).run P E=.ok v E/\∃v' j f,Ending.returned v=.returned v'/\Rel i j f E/\V i j f E (one a) v'/\bQ U M Fz w i j f E:=
    ⟨hd,v,S,v,_,_,rfl,R',T,EV⟩
   rcases hx with rfl | rfl
   ·exact post
   ·exact post
  simp_all
 simp_all
theorem SB.er0{b:Nat}{x y:TB}(h:SB [] b x y):y.er=x.er:=by
 cases x with
 |cells w A=>
  obtain ⟨w1,u,rfl,Q,o⟩:=h;simp only[TB.er,Ob.cells.injEq];apply Rg;intro j;rw[jX,jX];cases e:A[j]? with
  |none=>simp_all
  |some p=>
   have E:j<u.length:=by grind
   have:=o j p _ e (dB E) (λc z=>by grind)
   grind
 |row i l R W=>
  obtain ⟨G,K,L,rfl,o⟩:=h;obtain ⟨rfl,_,_⟩:=o λc z=>by grind
  rfl
 |mp j st l v=>obtain ⟨Z,O,G,v1,e,o⟩:=h;rw[o λc st z=>by grind]
theorem ex1xok{P:Program}{S:wj}{N:Nat}{I:cL}{X:KM}{K:BT}(dF:P.follows .mixedOrders=true)(hS:mb P S)(hI:cL.ok P I)(hX:KM.ok P X):KM.ok P (ex1 P S N K I X):=by
 intro ct gi vs U rv U2 σD ds h q j r;unfold ex1 at h;split at h
 ·rename_i fn hg;split at h
  ·rename_i l hc;split at h
   ·rename_i L;simp only[bJ] at L;have R0:Ref (zF 0 vs) U (jD 0 ds) σD:=⟨q,λt x p h=>by
     obtain ⟨d,v,rfl,e,h2,h3⟩:=zip3 j r 0 t x p h;exact ⟨d,e,h2,h3⟩⟩
    obtain ⟨⟨rs,U1⟩,h,o⟩:=zb h;have T:=SI ⟨P,S,ct.H,ct.J,ct.C,l.ntmps,N,I,X,K⟩ dF (wT (wB hS)) ⟨hI.inl _ _ _ _ _ _ _ _,hX.two _ _ _ _ _ _ _ _⟩ l.body 1 _ _ _ (rs,U1) _ _ h R0;dsimp only at o;split at o
    rotate_left
    ·grind
    rename_i hk;simp only[bJ] at hk;obtain ⟨O,hs,Q⟩:=hk;simp only[aw,ba] at o;obtain ⟨rfl,rfl⟩:=o;have R:=HJ hs;have ak:(U++U1.drop U.length).length=U1.length:=by simp_all
    have W:Ext U (U++U1.drop U.length):=λb blk h=>⟨blk,by grind,BE.refl blk⟩;have u:RH (U++U1.drop U.length) ((U++U1.drop U.length).map TB.er):=by
     refine RH.mk' λb w cs a p Z=>?_;rcases uS b U.length with e | e
     ·rw[Ie e] at a;obtain ⟨g1,g2⟩:=q.hg b w cs a p Z;exact ⟨g1.mono W,g2⟩
     ·rw[Pv e] at a;rw[gH] at Q;have:=Q _ (yl a);simp only[sBlk,gH,bJ] at this;obtain ⟨t1,t2⟩:=this p Z;exact ⟨My (by simp_all),DM t2⟩
    rw[gH] at O;have y:∀v∈rs,nT v:=λv hv=>ZR (O v hv);have z:∀v∈rs,GV (U++U1.drop U.length) v:=λv hv=>exV_gv (by simp_all);refine ⟨L.1,one (rs.map eD),(U++U1.drop U.length).map TB.er,u,NV y,OQ z,W,?_,λb a=>?_⟩
    ·refine Lm hg hc (by rw[<-j.len];simp_all) (T.gg λx' k g hP=>.inl ?_);obtain ⟨A,U',p1,_,p3,p4⟩:=hP;have fin:(match Eo (DX A U') l.results with | some rs=>some (rs,U') | none=>none)=some (rs,U1)->∃f,l.results.mapM (nJ k g)=some f/\g=(U++U1.drop U.length).map TB.er/\one f=one (rs.map eD):=by
      intro E;split at E
      ·rename_i av G;simp only[aw,ba] at E;obtain ⟨rfl,rfl⟩:=E;obtain ⟨f,h5,h6,h7⟩:=HU p1 G;refine ⟨f,h5,?_,by grind [XR]⟩;rw[p1.hh.eqD];apply Rg;intro b;rw[jX,jX];rcases uS b U.length with e | e
       ·rw[Ie e];obtain ⟨ad,e1,e2⟩:=Wb q hs p3 b _ (dB e)
        grind [SB.er0]
       grind [Nat.add_sub_cancel']
      simp_all
     cases x' with
     |exit i=>grind
     |normal=>exact ⟨.inl rfl,fin p4⟩
     |ret=>exact ⟨.inr rfl,fin p4⟩
    grind [RH.eqD]
   simp_all
  simp_all
 simp_all
theorem Mh{P:Program}{S:wj}{N:Nat}{B:cL}{b:BT}(dF:P.follows .mixedOrders=true)(d:mb P S)(e:cL.ok P B):∀(a:Nat),cL.ok P (Nh P S N B b a).1/\KM.ok P (Nh P S N B b a).2:=by
 intro a;induction a with
 |zero=>exact ⟨λi f g U y ct x rv U2 σD ds h=>by grind [Nh],λct f g U rv U2 σD ds h=>by grind [Nh]⟩
 |succ a ih=>exact ⟨Yv dF d e ih.1 ih.2,ex1xok dF d ih.1 ih.2⟩
end
end Go.Abs
end
section
namespace Go.Abs
variable[Gl]
def D.dO(ρ:Nat->Nat):D->D
 |.c x=>.c x
 |.any=>.any
 |.ptr b o s=>.ptr (ρ b) o s
 |.sl b o l e s=>.sl (ρ b) o l e s
 |.mp b=>.mp (ρ b)
 |.fn f a b=>.fn f (wK ρ a) (wK ρ b)
 |.agg ds=>.agg (wK ρ ds)
 |.aT ds=>.aT (wK ρ ds)
where wK (ρ:Nat->Nat):List D->List D
 |[]=>[]
 |d::ds=>d.dO ρ::wK ρ ds
theorem CX(ρ:Nat->Nat)(l:List D):D.dO.wK ρ l=l.map (D.dO ρ):=by
 induction l with
 |nil=>rfl
 |cons d l ih=>grind [D.dO.wK]
theorem jM(ρ:Nat->Nat)(l:List D)(i:Nat):(D.dO.wK ρ l)[i]? = (l[i]?).map (D.dO ρ):=by rw[CX,jX]
theorem lT(ρ:Nat->Nat)(l:List D):(D.dO.wK ρ l).length=l.length:=by rw[CX,A_]
def Ob.dO(ρ:Nat->Nat):Ob->Ob
 |.cells j=>.cells (j.map (D.dO ρ))
 |.map o i=>.map (o.map λe=>(e.1,e.2.1.dO ρ,e.2.2)) i
 |.gone n=>.gone n
theorem Ob.pR(ρ:Nat->Nat)(ob:Ob):(ob.dO ρ).sz=ob.sz:=by cases ob <;> simp[Ob.dO,Ob.sz]
section
variable{U H:aq}{M:Nat->Option Nat}{Fz:Nat->Prop}{w:World}{ρ:Nat->Nat}
theorem V.back{n:Nat}{Q:Nat->Option Nat}(hM:∀i,i<n->Q i=M (ρ i))(A:∀i,i<n->U[ρ i]? = (H[i]?).map (Ob.dO ρ)){d:D}{v:Value}(h:V U M Fz w (d.dO ρ) v):d.low n=true->V H Q Fz w d v:=by
 generalize hd:d.dO ρ=d' at h;induction h generalizing d with
 |c h=>intro _;cases d <;> simp only[D.dO,reduceCtorEq,D.c.injEq] at hd;subst hd;exact .c h
 |any v=>intro _;cases d <;> simp only[D.dO,reduceCtorEq] at hd;exact .any v
 |ptr a R h u z=>
  intro j;cases d <;> simp only[D.dO,reduceCtorEq,D.ptr.injEq] at hd
  obtain ⟨rfl,rfl,rfl⟩:=hd;simp only[D.low,bb] at j;rw[A _ j,cu] at h;obtain ⟨x,o,rfl⟩:=h;rw[Ob.pR] at u z;exact .ptr a x o u λe=>by simp_all
 |sl a Z G K R h u z=>
  intro j;cases d <;> simp only[D.dO,reduceCtorEq,D.sl.injEq] at hd
  obtain ⟨rfl,rfl,rfl,rfl,rfl⟩:=hd;simp only[D.low,bb] at j;rw[A _ j,cu] at h;obtain ⟨x,o,rfl⟩:=h;rw[Ob.pR] at u z;exact .sl a Z G K x o u λe=>by simp_all
 |mp c R h z=>
  intro j;cases d <;> simp only[D.dO,reduceCtorEq,D.mp.injEq] at hd
  subst hd;simp only[D.low,bb] at j;rw[A _ j,cu] at h;obtain ⟨x,o,rfl⟩:=h;rw[Ob.pR] at z;exact .mp c x o λe=>by simp_all
 |fn E ws o W z hw L O=>
  intro j;cases d <;> simp only[D.dO,reduceCtorEq,D.fn.injEq] at hd
  obtain ⟨rfl,rfl,rfl⟩:=hd;simp only[D.low,bJ] at j;rw[lT] at o W;exact .fn E ws o W (λi d v a b=>L i _ v (by grind [jM]) b rfl (D.aV j.1 i d a)) (λi d v a b=>O i _ v (by grind [jM]) b rfl (D.aV j.2 i d a))
 |agg E o z ih=>
  intro j;cases d <;> simp only[D.dO,reduceCtorEq,D.agg.injEq] at hd
  subst hd;simp only[D.low] at j;rw[lT] at o;exact .agg E o (λi d v a b=>ih i _ v (by grind [jM]) b rfl (D.aV j i d a))
 |aT E o z ih=>
  intro j;cases d <;> simp only[D.dO,reduceCtorEq,D.aT.injEq] at hd
  subst hd;simp only[D.low] at j;rw[lT] at o;exact .aT E o (λi d v a b=>ih i _ v (by grind [jM]) b rfl (D.aV j i d a))
theorem V.Js{n:Nat}{G:Nat->Option Nat}(L:∀i,i<n->M (ρ i)=G i)(O:∀i,i<n->U[ρ i]? = (H[i]?).map (Ob.dO ρ)){d:D}{v:Value}(h:V H G Fz w d v):d.low n=true->V U M Fz w (d.dO ρ) v:=by
 induction h with
 |c h=>intro _;exact .c h
 |any v=>intro _;exact .any v
 |ptr a u h z o=>intro j;simp only[D.low,bb] at j;exact .ptr a (u.dO ρ) (by simp_all) (by grind [Ob.pR]) λe=>by grind [Ob.pR]
 |sl a Q A E u h z o=>intro j;simp only[D.low,bb] at j;exact .sl a Q A E (u.dO ρ) (by simp_all) (by grind [Ob.pR]) λe=>by rw[L _ j];exact o (by grind [Ob.pR])
 |mp c u h o=>intro j;simp only[D.low,bb] at j;exact .mp c (u.dO ρ) (by simp_all) λe=>by grind [Ob.pR]
 |fn x R K h2 o hw W Z=>
  intro j;simp only[D.low,bJ] at j;refine .fn x R (by grind [lT]) (by grind [lT]) (λi d v a b=>?_) (λi d v a b=>?_)
  ·grind [jM,D.aV]
  grind [jM,D.aV]
 |agg x K o ih=>
  intro j;simp only[D.low] at j;refine .agg x (by grind [lT]) (λi d v a b=>?_)
  grind [jM,D.aV]
 |aT x K o ih=>
  intro j;simp only[D.low] at j;refine .aT x (by grind [lT]) (λi d v a b=>?_)
  grind [jM,D.aV]
theorem cf.back{n:Nat}{E:Nat->Option Nat}(K:∀i,i<n->E i=M (ρ i))(x:∀i,i<n->U[ρ i]? = (H[i]?).map (Ob.dO ρ)){ob:Ob}{o:Obj}(L:ob.low n=true)(h:cf U M Fz w (ob.dO ρ) o):cf H E Fz w ob o:=by
 cases ob with
 |cells R=>obtain ⟨j,T,rfl,u,G⟩:=h;simp only[A_] at u;refine ⟨j,T,rfl,u,λi d v a b=>?_⟩;obtain ⟨O,Q⟩:=G i (d.dO ρ) v (by simp_all) b;exact ⟨V.back K x O (D.aV L i d a),Q⟩
 |map W z=>
  obtain ⟨j,A,u,G⟩:=h;simp only[A_] at u;refine ⟨j,A,u,λi k d m e a b=>?_⟩
  grind [Ob.low,V.back]
 |gone m=>exact h
theorem cf.Js{n:Nat}{A:Nat->Option Nat}(K:∀i,i<n->M (ρ i)=A i)(u:∀i,i<n->U[ρ i]? = (H[i]?).map (Ob.dO ρ)){ob:Ob}{o:Obj}(L:ob.low n=true)(h:cf H A Fz w ob o):cf U M Fz w (ob.dO ρ) o:=by
 cases ob with
 |cells W=>obtain ⟨j,T,rfl,O,E⟩:=h;refine ⟨j,T,rfl,by simp_all,λi d v a b=>?_⟩;rw[jX,cu] at a;obtain ⟨G,a,rfl⟩:=a;obtain ⟨Q,R⟩:=E i G v a b;exact ⟨V.Js K u Q (D.aV L i G a),R⟩
 |map Z x=>
  obtain ⟨j,z,O,E⟩:=h;refine ⟨j,z,by simp_all,λi k d m e a b=>?_⟩
  grind [Ob.low,V.Js]
 |gone m=>exact h
end
end Go.Abs
end
section
namespace Go.Abs
noncomputable section
variable[Gl][Y:Ty]
def cS(P:Program)(g:FuncId)(s:cW):Prop:=bq P g=true/\∀(x:dT s.CO.bN)(y:qf s.VG)(a:List TV)(U:TH)(ct:CT)(z:dT ct.bN)(rv:List TV)(U2:TH),
 s.f x=some y->sH s.CO [] x=some (a,U)->xA s.VG y=some ⟨ct,z⟩->sH ct U z=some (rv,U2)->Ok P g (a.map eD) (U.map TB.er) (one (rv.map eD)) (U2.map TB.er)
theorem D.Bg(ρ:Nat->Nat){d:D}(h:d.low 0=true):d.dO ρ=d:=by
 have i:∀(k:Nat)(d:D),SizeOf.sizeOf d<k->d.low 0=true->d.dO ρ=d:=by
  intro k;induction k with
  |zero=>omega
  |succ k ih=>
   have cF:∀(ds:List D),SizeOf.sizeOf ds<k+1->D.low.cF 0 ds=true->D.dO.wK ρ ds=ds:=by
    intro ds;induction ds with
    |nil=>intro _ _;rfl
    |cons x ds j=>
     intro hs h;simp only[D.low.cF,bJ,List.cons.sizeOf_spec] at h hs
     grind [D.dO.wK]
   intro d hs h;cases d with
   |c x=>rfl
   |any=>rfl
   |ptr b o s=>grind [D.low]
   |sl b o l e s=>grind [D.low]
   |mp b=>grind [D.low]
   |fn f a b=>
    simp only[D.low,bJ,D.fn.sizeOf_spec] at h hs
    grind [D.dO]
   |agg ds=>grind [D.low,D.dO]
   |aT ds=>grind [D.low,D.dO]
 exact i (SizeOf.sizeOf d+1) d (Nat.lt_succ_self _) h
theorem Mg(ρ:Nat->Nat)(l:List C):(l.map D.c).map (D.dO ρ)=l.map D.c:=by rw[Uc];rfl
theorem JJ(ρ:Nat->Nat)(c:CC)(a:c.dn):(xf c a).er.dO ρ=(xf c a).er:=by rw[kU];rfl
theorem Yb(ρ:Nat->Nat)(i:Nat)(a:TT i):((exp i a).map TC.er).map (D.dO ρ)=(exp i a).map TC.er:=by rw[zx,Uc];rfl
def BV(ρ:Nat->Nat)(x y:TB):Prop:=(∃w e f d,x=.cells w e/\y=.cells f d/\aH (λ(a b:Nat×TC)=>b.2.er=a.2.er.dO ρ) e d)∨tJ x y
structure ij (ρ:Nat->Nat) (n:Nat) (U0 U:TH):Prop where
 len:U0.length=n
 bs:∀i,i<n->∃x y,U0[i]? = some x/\U[ρ i]? = some y/\BV ρ x y
variable{ρ:Nat->Nat}{n m0:Nat}{U0 U:TH}
theorem ij.set(h:ij ρ n U0 U)(inj:∀i j,i<n->j<n->ρ i=ρ j->i=j){b:Nat}(E:b<n){x y:TB}(u:BV ρ x y):ij ρ n (U0.set b x) (U.set (ρ b) y):={
 len:=by rw[SU];exact h.len
 bs:=λi o=>by
  by_cases e:i=b
  ·subst e;obtain ⟨z,A,h1,h2,_⟩:=h.bs i o
   grind
  ·obtain ⟨z,A,h1,h2,G⟩:=h.bs i o
   grind }
theorem ij.row(h:ij ρ n U0 U){b i:Nat}(z:b<n){l:List (TT i)}{A E:Nat}(G:U[ρ b]? = some (.row i l A E)):∃j o,U0[b]? = some (.row i l j o):=by
 obtain ⟨x,y,W,u,K⟩:=h.bs b z;rw[G] at u;simp only[aw] at u;subst u;rcases K with ⟨_,_,_,_,_,e,_⟩ | ⟨Z,l',L,O,Q,R,e1,e2⟩ | ⟨_,_,_,_,_,_,e⟩
 ·simp at e
 ·grind
 simp_all
theorem ij.mp(h:ij ρ n U0 U){b j:Nat}{st:Bool}(o:b<n){l:List (Int×TT j)}{v:Nat}(u:U[ρ b]? = some (.mp j st l v)):∃z,U0[b]? = some (.mp j st l z):=by
 obtain ⟨x,y,G,i,A⟩:=h.bs b o;rw[u] at i;simp only[aw] at i;subst i;rcases A with ⟨_,_,_,_,_,e,_⟩ | ⟨_,_,_,_,_,_,_,e⟩ | ⟨K,E,L,O,Q,R,W⟩
 ·simp at e
 ·simp at e
 grind
theorem ij.cells(h:ij ρ n U0 U){b:Nat}(u:b<n){w:Nat}{cs:List (Nat×TC)}(z:U[ρ b]? = some (.cells w cs)):∃o i,U0[b]? = some (.cells o i)/\aH (λ(a b:Nat×TC)=>b.2.er=a.2.er.dO ρ) i cs:=by
 obtain ⟨x,y,G,j,A⟩:=h.bs b u;rw[z] at j;simp only[aw] at j;subst j;rcases A with ⟨o,i,K,E,L,O,Q⟩ | ⟨_,_,_,_,_,_,_,e⟩ | ⟨_,_,_,_,_,_,e⟩
 ·grind
 ·simp at e
 simp_all
theorem Hb{p q:CP}{ds r:List jU}{y:TC}(g:rCP ρ n p q=true)(h:ij ρ n U0 U)(f:Ag U q ds=some (y,r)):∃u,Ag U0 p ds=some (u,r)/\y.er=u.er.dO ρ:=by
 unfold rCP at g;split at g
 ·rename_i a b;have:=of_decide_eq_true g;subst this;cases ds with
  |nil=>grind [Ag]
  |cons d ds=>
   simp only[Ag] at f ⊢
   grind [JJ]
 ·cases ds with
  |nil=>grind [Ag]
  |cons d ds=>
   simp only[Ag] at f ⊢;split at f
   ·rename_i G K;simp only[aw,ba] at f;obtain ⟨rfl,rfl⟩:=f;exact ⟨_,rfl,rfl⟩
   simp_all
 ·rename_i b v;simp only[bJ] at g;have e:=cY g.1;have j:=yh.mp g.2;subst e;simp only[Ag] at f ⊢;split at f
  ·rename_i i l L N hs;simp only[aw,ba] at f;obtain ⟨rfl,rfl⟩:=f;obtain ⟨x,z,A⟩:=h.row j hs;rw[A];exact ⟨_,rfl,rfl⟩
  simp_all
 ·rename_i b o s v O s';simp only[bJ] at g;obtain ⟨e,j,k,t⟩:=g;have e:=cY e;have j:=yh.mp j;have k:=cY k;have t:=cY t;subst e k t;simp only[Ag] at f ⊢;split at f
  ·simp only[aw,ba] at f;obtain ⟨rfl,rfl⟩:=f;rw[h.len,yh.mpr j];exact ⟨_,rfl,rfl⟩
  simp_all
 ·rename_i b v;simp only[bJ] at g;have e:=cY g.1;have j:=yh.mp g.2;subst e;simp only[Ag] at f ⊢;split at f
  ·simp only[aw,ba] at f;obtain ⟨rfl,rfl⟩:=f;rw[h.len,yh.mpr j];exact ⟨_,rfl,rfl⟩
  simp_all
 ·rename_i d P;have:=UM g;subst this;simp only[Ag] at f ⊢;split at f
  ·rename_i E;simp only[aw,ba] at f;obtain ⟨rfl,rfl⟩:=f;exact ⟨_,rfl,(D.Bg ρ E).symm⟩
  simp_all
 simp_all
theorem JT:∀{e d:List CP}{ds r:List jU}{f:List TC},MR ρ n e d=true->ij ρ n U0 U->yN U d ds=some (f,r)->∃a,yN U0 e ds=some (a,r)/\aH (λ(y i:TC)=>y.er=i.er.dO ρ) f a:=by
 intro e;induction e with
 |nil=>
  intro d ds r f g h b;cases d with
  |nil=>simp only[yN,aw,ba] at b;obtain ⟨rfl,rfl⟩:=b;exact ⟨[],rfl,.nil⟩
  |cons _ _=>grind [MR]
 |cons p e ih=>
  intro d ds r f g h b;cases d with
  |nil=>grind [MR]
  |cons q d=>
   simp only[MR,bJ] at g;simp only[yN] at b;split at b
   ·rename_i x t j;split at b
    ·rename_i u v k;simp only[aw,ba] at b;obtain ⟨rfl,rfl⟩:=b;obtain ⟨i,z,l⟩:=Hb g.1 h j;obtain ⟨a,A,o⟩:=ih g.2 h k;exact ⟨i::a,by grind [yN],.cons l o⟩
    simp_all
   simp_all
theorem Yw{a b:cR}(h:eqVC a b=true):a=b:=by
 unfold eqVC at h;split at h
 ·simp_all
 ·simp_all
 ·simp_all
 ·simp_all
 simp_all
theorem aH.MH{j i:List TC}(h:aH (λ(y o:TC)=>y.er=o.er.dO ρ) j i):j.map TC.er=D.dO.wK ρ (i.map TC.er):=by
 induction h with
 |nil=>rfl
 |cons h _ ih=>grind [D.dO.wK]
theorem Xj{p q:RO}{ds r:List jU}{v:TV}(f:rRO ρ n p q=true)(h:ij ρ n U0 U)(e:AU U q ds=some (v,r)):∃t,AU U0 p ds=some (t,r)/\eD v=(eD t).dO ρ:=by
 unfold rRO at f;split at f
 ·rename_i a b;have:=Yw f;subst this;cases ds with
  |nil=>grind [AU]
  |cons d ds=>
   cases a with
   |c c=>
    simp only[AU] at e ⊢;split at e
    ·simp only[aw,ba] at e;obtain ⟨rfl,rfl⟩:=e;exact ⟨_,rfl,(JJ ρ _ _).symm⟩
    simp_all
   |st i=>
    simp only[AU] at e ⊢;split at e
    ·simp only[aw,ba] at e;obtain ⟨rfl,rfl⟩:=e;refine ⟨_,rfl,?_⟩
     grind [eD,D.dO,CX,Yb]
    simp_all
   |fp i=>
    simp only[AU] at e ⊢;split at e
    ·simp only[aw,ba] at e;obtain ⟨rfl,rfl⟩:=e;exact ⟨_,rfl,rfl⟩
    simp_all
   |k g=>grind [AU]
 ·rename_i a b;simp only[AU] at e;split at e
  ·rename_i x u j;simp only[aw,ba] at e;obtain ⟨rfl,rfl⟩:=e;obtain ⟨l,y,o⟩:=Hb f h j;exact ⟨.c l,by grind [AU],o⟩
  simp_all
 ·rename_i a b;simp only[AU] at e;split at e
  ·rename_i z u j;simp only[aw,ba] at e;obtain ⟨rfl,rfl⟩:=e;obtain ⟨l,y,o⟩:=JT f h j;refine ⟨.agg l,by grind [AU],?_⟩;simp only[eD,D.dO,o.MH]
  simp_all
 simp_all
theorem Tu:∀{d b:List RO}{ds r:List jU}{vs:List TV},QA ρ n d b=true->ij ρ n U0 U->qg U b ds=some (vs,r)->∃e,qg U0 d ds=some (e,r)/\aH (λ(v i:TV)=>eD v=(eD i).dO ρ) vs e:=by
 intro d;induction d with
 |nil=>
  intro b ds r j f h a;cases b with
  |nil=>simp only[qg,aw,ba] at a;obtain ⟨rfl,rfl⟩:=a;exact ⟨[],rfl,.nil⟩
  |cons _ _=>grind [QA]
 |cons p d ih=>
  intro b ds r j f h a;cases b with
  |nil=>grind [QA]
  |cons q b=>
   simp only[QA,bJ] at f;simp only[qg] at a;split at a
   ·rename_i x y k;split at a
    ·rename_i z A l;simp only[aw,ba] at a;obtain ⟨rfl,rfl⟩:=a;obtain ⟨o,E,t⟩:=Xj f.1 h k;obtain ⟨g,G,u⟩:=ih f.2 h l;exact ⟨o::g,by grind [qg],.cons t u⟩
    simp_all
   simp_all
theorem Qt(inj:∀i j,i<m0->j<m0->ρ i=ρ j->i=j):∀{u o:List PC}{U0 U y:TH}{ds r:List jU},zI ρ m0 n u o=true->ij ρ m0 U0 U->cd U o ds=some (y,r)->∃a,cd U0 u ds=some (a,r)/\ij ρ m0 a y:=by
 intro u;induction u with
 |nil=>
  intro o U0 U y ds r z h g;cases o with
  |nil=>simp only[cd,aw,ba] at g;obtain ⟨rfl,rfl⟩:=g;exact ⟨U0,rfl,h⟩
  |cons _ _=>grind [zI]
 |cons p u ih=>
  intro o U0 U y ds r z h g;cases o with
  |nil=>grind [zI]
  |cons q o=>
   simp only[zI,bJ] at z;obtain ⟨f,x⟩:=z;unfold rPC at f;split at f
   ·grind [cd]
   ·rename_i b i K i';simp only[bJ] at f;obtain ⟨e,k,t⟩:=f;have e:=cY e;have k:=yh.mp k;have t:=cY t;subst e t;cases ds with
    |nil=>grind [cd]
    |cons d ds=>
     simp only[cd] at g;split at g
     ·rename_i l j L N O P A;split at g
      ·rename_i Q;have:=cY Q;subst this;obtain ⟨E,G,R⟩:=h.row k A;obtain ⟨a,S,T⟩:=ih x (h.set inj k (.inr (.inl ⟨j,l,E+1,G+1,N+1,O+1,rfl,rfl⟩))) g
       grind [cd]
      simp_all
     simp_all
   ·rename_i b j st K j' W;simp only[bJ,lm] at f;obtain ⟨e,k,t,Z⟩:=f;have e:=cY e;have k:=yh.mp k;have t:=cY t;subst e t Z;cases ds with
    |nil=>grind [cd]
    |cons d ds=>
     simp only[cd] at g;split at g
     ·rename_i l j0 ad L v P A;obtain ⟨v0,R⟩:=h.mp k A;obtain ⟨a,S,T⟩:=ih x (h.set inj k (.inr (.inr ⟨j,st,l,v0+1,v+1,rfl,rfl⟩))) g
      grind [cd]
     simp_all
   simp_all
theorem Tw:∀{b e:List NB}{ds r:List jU}{l:TH},yb ρ n b e=true->dA e ds=some (l,r)->dA b ds=some (l,r):=by
 intro b;induction b with
 |nil=>grind [yb]
 |cons p b ih=>
  intro e ds r l f h;cases e with
  |nil=>grind [yb]
  |cons q e=>
   simp only[yb,bJ] at f;obtain ⟨a,g⟩:=f;unfold rNB at a;split at a
   ·grind [dA]
   ·have:=cY a;subst this;cases ds with
    |nil=>grind [dA]
    |cons d ds=>grind [dA]
   ·simp only[bJ,lm] at a;have:=cY a.1;subst this;have:=a.2;subst this;cases ds with
    |nil=>grind [dA]
    |cons d ds=>grind [dA]
   simp_all
theorem aH.set{α i:Type}{R:α->i->Prop}{l:List α}{m:List i}(h:aH R l m){a:α}{b:i}(o:R a b):∀j:Nat,aH R (l.set j a) (m.set j b):=by
 induction h with
 |nil=>intro j;exact .nil
 |cons h r ih=>
  intro j;cases j with
  |zero=>exact .cons o r
  |succ j=>exact .cons h (ih j)
theorem Vc(inj:∀i j,i<m0->j<m0->ρ i=ρ j->i=j){g σs:TH}(hs:ij ρ n g σs):∀{o k:List PC}{U0 U t:TH}{ds r:List jU},zI ρ m0 n o k=true->ij ρ m0 U0 U->fA σs k U ds=some (t,r)->∃d,fA g o U0 ds=some (d,r)/\ij ρ m0 d t:=by
 intro o;induction o with
 |nil=>
  intro k U0 U t ds r v h l;cases k with
  |nil=>simp only[fA,aw,ba] at l;obtain ⟨rfl,rfl⟩:=l;exact ⟨U0,rfl,h⟩
  |cons _ _=>grind [zI]
 |cons p o ih=>
  intro k U0 U t ds r v h l;cases k with
  |nil=>grind [zI]
  |cons q k=>
   simp only[zI,bJ] at v;obtain ⟨f,y⟩:=v;unfold rPC at f;split at f
   ·rename_i b j p Q R S;simp only[bJ] at f;obtain ⟨e,u,z,E⟩:=f;have e:=cY e;have u:=yh.mp u;have z:=cY z;subst e z;simp only[fA] at l;split at l
    ·rename_i x T w W G K;obtain ⟨L,Z,N⟩:=Hb E hs G;obtain ⟨A,O,h3,P⟩:=h.cells u K;obtain ⟨d,b1,b2⟩:=ih y (h.set inj u (.inl ⟨A+1,_,w+1,_,rfl,rfl,P.set (a:=(A+1,L)) (b:=(w+1,x)) N j⟩)) l
     grind [fA]
    simp_all
   ·grind [fA]
   ·grind [fA]
   simp_all
theorem Sg{d σs:TH}(hs:ij ρ n d σs):∀{u f:List NB}{e l:TH}{ds:List jU},yb ρ n u f=true->(∀b∈e,BV ρ b b)->dX σs f e ds=some l->∃k,dX d u e ds=some k/\aH (BV ρ) k l:=by
 intro u;induction u with
 |nil=>
  intro f e l ds y v a;cases f with
  |nil=>simp only[dX,aw] at a;subst a;exact ⟨[],rfl,.nil⟩
  |cons _ _=>grind [yb]
 |cons p u ih=>
  intro f e l ds y v a;cases f with
  |nil=>grind [yb]
  |cons q f=>
   simp only[yb,bJ] at y;obtain ⟨g,i⟩:=y;cases e with
   |nil=>grind [dX]
   |cons b e=>
    have j:∀b∈e,BV ρ b b:=λx K=>v x (pG _ K);unfold rNB at g;split at g
    ·rename_i as L;simp only[dX] at a;split at a
     ·rename_i P r E;split at a
      ·rename_i G o;simp only[aw] at a;subst a;obtain ⟨z,N,O⟩:=JT g hs E;obtain ⟨k,A,t⟩:=ih i j o;refine ⟨.cells 0 (z.map λx=>(0,x))::k,by grind [dX],.cons (.inl ⟨0,_,0,_,rfl,rfl,?_⟩) t⟩;clear A t N E o ih;induction O with
       |nil=>exact .nil
       |cons h _ ih=>exact .cons h ih
      simp_all
     simp_all
    ·simp only[dX] at a;split at a
     ·rename_i G o;simp only[aw] at a;subst a;obtain ⟨k,A,t⟩:=ih i j o;exact ⟨_,by grind [dX],.cons (v b (pe ..)) t⟩
     simp_all
    ·simp only[dX] at a;split at a
     ·rename_i G o;simp only[aw] at a;subst a;obtain ⟨k,A,t⟩:=ih i j o;exact ⟨_,by grind [dX],.cons (v b (pe ..)) t⟩
     simp_all
    simp_all
theorem BV.new{o:List NB}{ds r:List jU}{l:TH}(h:dA o ds=some (l,r)):∀b∈l,BV ρ b b:=by
 intro b z;obtain ⟨k,hk⟩:=yBr z;cases b with
 |cells w A=>have:=(xg h k).1 w A hk;subst this;exact .inl ⟨w,[],w,[],rfl,rfl,.nil⟩
 |row i l u x=>exact .inr (.inl ⟨i,l,u,x,u,x,rfl,rfl⟩)
 |mp j st l v=>exact .inr (.inr ⟨j,st,l,v,v,rfl,rfl⟩)
theorem ij.SD(h:ij ρ m0 U0 U){j l:TH}(u:aH (BV ρ) j l)(z:∀k,ρ (m0+k)=U.length+k)(lt:∀i,i<m0->ρ i<U.length):ij ρ (m0+j.length) (U0++j) (U++l):={
 len:=by rw[Gh,h.len]
 bs:=λi A=>by
  rcases uS i m0 with o | o
  ·obtain ⟨x,y,a,b,c⟩:=h.bs i o
   grind
  ·obtain ⟨k,rfl⟩:=yBs o;have hk:k<j.length:=by omega
   obtain ⟨y,a,b⟩:=u.get k _ (dB hk)
   grind [ij.len] }
theorem aH.refl'{α:Type}{R:α->α->Prop}{l:List α}(h:∀b∈l,R b b):aH R l l:=by
 induction l with
 |nil=>exact .nil
 |cons a l ih=>exact .cons (h a (pe ..)) (ih λb i=>h b (pG _ i))
theorem UN{a ct:CT}{F:TH}{rv:List TV}{ds:List jU}{r:dT a.bN}(inj:∀i j,i<m0->j<m0->ρ i=ρ j->i=j)(t:rCT ρ m0 a ct=true)(hs:ij ρ m0 U0 U)(A:∀k,ρ (m0+k)=U.length+k)(lt:∀i,i<m0->ρ i<U.length)
  {σD:aq} (H:RH U σD) (L:Laid ct U ds rv F) (hd:gL a.bN r=ds) :
  ∃b u,sH a U0 r=some (b,u)/\aH (λ(v E:TV)=>eD v=(eD E).dO ρ) rv b/\ij ρ (m0+a.nb.length) u F:=by
 simp only[rCT,bJ] at t;obtain ⟨h,d,e⟩:=t;have x:=gn L.h1 H;have C:=kD L.h4;obtain ⟨f,Q,y⟩:=Qt inj d hs L.h1;have l:=Tw e L.h2;have g:L.nb.length=a.nb.length:=BL l;have o:ij ρ (m0+a.nb.length) (f++L.nb) (L.ib++L.nb):=by rw[<-g];exact y.SD (aH.refl' (BV.new l)) (by grind [xB.len]) (by grind [xB.len])
 obtain ⟨b,c1,G⟩:=Tu h o L.h3;obtain ⟨p,R,K⟩:=Vc inj o d y L.h4;obtain ⟨z,N,O⟩:=Sg o e (BV.new l) L.h5;have q:z.length=a.nb.length:=(yW N).1;refine ⟨b,p++z,?_,G,?_⟩
 ·grind [sH]
 ·have P:F=L.U2++L.l:=L.e;rw[P,<-q];exact K.SD O (by rw[C.len,x.len];exact A) (by rw[C.len,x.len];exact lt)
end
end Go.Abs
end
section
namespace Go.Abs
noncomputable section
variable[Gl][Y:Ty]
theorem relocH{P:Program}{g:FuncId}{ds K:List D}{H l:aq}{r:D}(ok:Ok P g K H r l)(av:H.length<=l.length)
  (ad:l.all (Ob.low l.length)=true) (hr:r.low l.length=true)
  {U U':aq} {ρ ρ0:Nat->Nat} (ag:∀i,i<H.length->ρ0 i=ρ i) (N:Oq 0 U H ρ0 (λ_=>False)) (hd:aH (c_ U H ρ0 (λ_=>False)) ds K)
  (inj:∀i j,i<l.length->j<l.length->ρ i=ρ j->i=j) (hi:∀i,H.length<=i->i<l.length->U.length<=ρ i)
  (s2:∀i,i<l.length->U'[ρ i]? = (l[i]?).map (Ob.dO ρ)) (s3:∀j,(∀i,i<l.length->ρ i≠j)->U'[j]? = U[j]?) :
  Ok P g ds U (r.dO ρ) U':=by
 intro M Fz w vs R hs hv
 let E:Nat->Option Nat:=mN H.length ρ0 M
 have eF:∀Fz:Nat->Prop,ZM (λ_=>False) M Fz=Fz:=λFz=>by
  funext c;refine propext ⟨λh=>?_,.inl⟩;rcases h with h | ⟨b,h,_⟩
  ·exact h
  simp_all
 have ax:∀i,i<H.length->E i=M (ρ i):=λi h=>by simp only[E,mN,h,if_true,ag i h]
 have y:∀i c,E i=some c->i<H.length/\M (ρ i)=some c:=λi c h=>by grind [mN]
 have R0:Rel H E Fz w:=by
  have:=N.rel R
  grind
 refine (ok E Fz w vs R0 (by rw[hs,hd.len]) (λi d v a b=>by
  obtain ⟨d1,L,h2⟩:=hd.get' i d a;have:=h2 M Fz w v R (hv i d1 v L b)
  grind)).mono λe w' he=>?_
 obtain ⟨v,M1,O,rfl,Q,a0,u⟩:=he;have a1:∀i c,M1 i=some c->i<l.length:=λi c h=>by
  obtain ⟨_,ob,o,h2,_⟩:=Q.blk i c h
  grind
 let f:Nat->Option Nat:=λj=>(List.range l.length).find? λi=>ρ i == j
 have q:∀i,i<l.length->f (ρ i)=some i:=λi h=>by
  cases e:f (ρ i) with
  |none=>grind
  |some k=>grind
 have p:∀j i,f j=some i->i<l.length/\ρ i=j:=λj i e=>⟨List.mem_range.1 (List.mem_of_find?_eq_some e),by grind⟩;have t:∀j,f j=none->∀i,i<l.length->ρ i≠j:=λj e i h=>by grind
 let S:Nat->Option Nat:=λj=>match f j with | some i=>M1 i | none=>M j
 have m1:∀j i,f j=some i->S j=M1 i:=λj i h=>by grind
 have m2:∀j,f j=none->S j=M j:=λj h=>by grind
 have af:∀i,i<l.length->S (ρ i)=M1 i:=λi h=>m1 _ _ (q i h);have apart:∀j c b,f j=none->M j=some c->E b≠some c:=λj c b L h2 z=>by obtain ⟨hb,z⟩:=y b c z;exact t j L b (by omega) (R.inj _ _ _ z h2)
 have lt:∀j c,M j=some c->c<w.heap.size:=λj c h=>by
  obtain ⟨_,_,o,_,z,_⟩:=R.blk j c h
  grind
 have ak:bQ U M Fz w U' S O w':={
  size:=u.size
  frame:=λc hc hn=>u.frame c hc λb hb=>hn (ρ b) (y b c hb).2
  oA:=λj c h=>by
   cases e:f j with
   |some i=>
    rw[m1 j i e] at h;rcases u.oA i c h with ⟨b0,x⟩ | x
    ·grind
    omega
   |none=>grind
  fz:=u.fz
  rS:=λc h=>by
   rcases u.rS c h with x | ⟨b,x⟩ | x
   ·grind
   ·grind
   omega
  sa:=u.sa
  cX:=λj ob h=>by
   cases e:f j with
   |some i=>
    obtain ⟨L,h2⟩:=p j i e;have hj:j<U.length:=(jy.1 h).1;have T:i<H.length:=by grind
    obtain ⟨q1,q2,q3,q4,q5⟩:=N.sz i T;rw[ag i T,h2,h] at q3;simp only[aw] at q3;subst q3;obtain ⟨a2,h4,h5,h6⟩:=u.cX i q2 q4
    grind [Ob.pR]
   |none=>grind
  out:=u.out }
 have R2:Rel U' S O w':={
  blk:=λj c h=>by
   cases e:f j with
   |some i=>rw[m1 j i e] at h;obtain ⟨L,h2⟩:=p j i e;obtain ⟨z,ob,o,h4,h5,h6⟩:=Q.blk i c h;exact ⟨z,ob.dO ρ,o,by grind,h5,cf.Js af s2 (gH.1 ad _ (yl h4)) h6⟩
   |none=>
    rw[m2 j e] at h;obtain ⟨z,ob,o,h4,h5,h6⟩:=R.blk j c h;refine ⟨λhf=>?_,ob,o,by grind,by rw[u.frame c (lt j c h) λb=>apart j c b e h];exact h5,h6.mono ak⟩;rcases u.rS c hf with x | ⟨b,x⟩ | x
    ·grind
    ·grind
    grind
  inj:=λj G c h A=>by
   cases e:f j with
   |some i=>
    rw[m1 j i e] at h;cases W:f G with
    |some Z=>
     rw[m1 G Z W] at A;have:=Q.inj i Z c h A
     grind
    |none=>
     rw[m2 G W] at A;rcases u.oA i c h with ⟨b0,x⟩ | x
     ·grind
     grind
   |none=>
    rw[m2 j e] at h;cases W:f G with
    |some Z=>
     rw[m1 G Z W] at A;rcases u.oA Z c A with ⟨b0,x⟩ | x
     ·grind
     grind
    |none=>rw[m2 G W] at A;exact R.inj _ _ _ h A
  fz:=Q.fz
  gl:=Q.gl }
 grind [V.Js]
theorem castO{α a:Type}(e:α=a){o:Option α}{y:a}(h:cast (Ts Option e) o=some y):∃b,o=some b/\HEq b y:=by grind
theorem E_{i j:List It}(e:i=j){x:dT i}{y:dT j}(h:HEq x y):gL i x=gL j y:=by grind
theorem YQ{A B d f:Type}(e:A=d)(e':B=f){x:A ⊕ B}{y:d ⊕ f}(h:HEq x y):(∃a g,x=.inl a/\y=.inl g/\HEq a g)∨(∃b i,x=.inr b/\y=.inr i/\HEq b i):=by grind
theorem Se:∀{a b:List CT},a.map CT.bN=b.map CT.bN->∀{g:qf a}{y:qf b}{ct:CT}{x:dT ct.bN},HEq g y->xA b y=some ⟨ct,x⟩ ->
  ∃(i:Nat)(f:CT)(j:dT f.bN),xA a g=some ⟨f,j⟩/\a[i]? = some f/\b[i]? = some ct/\gL f.bN j=gL ct.bN x:=by
 intro a;induction a with
 |nil=>grind
 |cons c a ih=>
  intro b e g y ct x k hs;cases b with
  |nil=>simp at e
  |cons d b=>
   simp only[oK,List.cons.injEq] at e;cases a with
   |nil=>
    cases b with
    |cons _ _=>simp at e
    |nil=>simp only[xA,aw,yB5] at hs;obtain ⟨rfl,hs⟩:=hs;cases hs;exact ⟨0,c,g,rfl,rfl,rfl,E_ e.1 k⟩
   |cons r a=>
    cases b with
    |nil=>simp at e
    |cons t b=>
     rcases YQ (by rw[e.1]) (He e.2) k with ⟨u,v,rfl,rfl,h⟩ | ⟨u,v,rfl,rfl,h⟩
     ·simp only[xA,aw,yB5] at hs;obtain ⟨rfl,hs⟩:=hs;cases hs;exact ⟨0,c,u,rfl,rfl,rfl,E_ e.1 h⟩
     ·obtain ⟨i,f,j,l,o,p,q⟩:=ih e.2 h hs;exact ⟨i+1,f,j,l,o,p,q⟩
theorem Uw{ρ:Nat->Nat}{m0:Nat}:∀{a b:List CT},XX ρ m0 a b=true->∀(i:Nat) c d,a[i]? = some c->b[i]? = some d->rCT ρ m0 c d=true:=by
 intro a;induction a with
 |nil=>simp_all
 |cons x a ih=>
  intro b h i c d e f;cases b with
  |nil=>grind
  |cons y b=>
   simp only[XX,bJ] at h
   grind
theorem Rv{ρ:Nat->Nat}{m0 n:Nat}:∀{e d:List PC},zI ρ m0 n e d=true->∀q∈d,∃b,b<m0/\q.blk=ρ b:=by
 intro e;induction e with
 |nil=>grind [zI]
 |cons p e ih=>
  intro d h q f;cases d with
  |nil=>grind
  |cons g d=>
   simp only[zI,bJ] at h;rcases me.1 f with rfl | f
   ·have a:=h.1;unfold rPC at a;split at a
    ·simp only[bJ] at a;exact ⟨_,yh.mp a.2.1,(cY a.1).symm⟩
    ·simp only[bJ] at a;exact ⟨_,yh.mp a.2.1,(cY a.1).symm⟩
    ·simp only[bJ] at a;exact ⟨_,yh.mp a.2.1,(cY a.1).symm⟩
    simp_all
   grind
theorem TR{x y:TC}(a:x=.d (.c (.lit (.slice none 0 0))))(h:(!(wX x) || wX y)=true):x=y:=by
 subst a;simp only[wX,zM,yBB] at h
 grind
theorem XI:∀{d e:List (Nat×TC)},Sm.exC d e=true->∀(j:Nat) x y,d[j]? = some x->e[j]? = some y->(!(wX x.2) || wX y.2)=true:=by
 intro d;induction d with
 |nil=>simp_all
 |cons a d ih=>
  intro e h j x y f g;cases e with
  |nil=>grind
  |cons b e=>
   obtain ⟨_,a⟩:=a;obtain ⟨_,b⟩:=b;simp only[Sm.exC,bJ] at h
   grind
theorem XS{U:TH}{ρ:List (Nat×Nat)}:∀{a:TH}{d:Nat},Sm U ρ d a=true->∀(i:Nat) w e j f,a[i]? = some (.cells w e)->U[(nI (d+i) ρ).getD 0]? = some (.cells j f)->Sm.exC f e=true:=by
 intro a;induction a with
 |nil=>simp_all
 |cons b a ih=>
  intro d h i w e j f g k;cases i with
  |zero=>
   simp only[List.getElem?_cons_zero,aw] at g;subst g;simp only[Sm,bJ] at h
   simp_all
  |succ i=>
   simp only[List.getElem?_cons_succ] at g;have l:Sm U ρ (d+1) a=true:=by
    cases b with
    |cells w o=>simp only[Sm,bJ] at h;exact h.2
    |row=>exact h
    |mp=>exact h
   grind
theorem tJ.symm{x y:TB}(h:tJ x y):tJ y x:=by
 rcases h with ⟨i,l,z,A,o,u,rfl,rfl⟩ | ⟨j,st,l,v,E,rfl,rfl⟩
 ·exact .inl ⟨i,l,o,u,z,A,rfl,rfl⟩
 ·exact .inr ⟨j,st,l,E,v,rfl,rfl⟩
theorem MX.can{U σs F:TH}{σD:aq}{s:MS}{n:Nat}(X:MX [] U σs F s n)(H1:RH U σD)(hf:s.fz=[])(he:Sm U s.ρ 0 F=true){ρ:Nat->Nat}(af:∀i,i<F.length->gS 0 s i=ρ i):ij ρ F.length F U:={
 len:=rfl
 bs:=λi hi=>by
  obtain ⟨x,y,h1,h2,h3⟩:=X.bf i hi;have K:([]:TH).length=0:=rfl;rw[K] at h1;refine ⟨y,x,h2,by simp_all,?_⟩;rcases h3 with ⟨w,W,Z,A,rfl,rfl,G⟩ | G
  ·refine .inl ⟨Z,A,w,W,rfl,rfl,?_⟩;have ad:gS 0 s i=(nI i s.ρ).getD 0:=by rw[gS,if_neg (by omega)]
   have ex:=XS he i Z A w W h2 (by simp_all);refine aH.Fs ?_ λj a b ha hb=>?_
   ·have:=G.len
    simp_all
   ·have c:=(G.get j b.2 (by simp_all));obtain ⟨a',z,c⟩:=c;rw[jX,ha] at z;simp only[Option.map_some,aw] at z;subst z;have e1:=XI ex j b a hb ha;have blk:∀b u:Nat,Bd 0 s b u->b<F.length->u=ρ b:=λb u hb K=>by grind [Bd.Kf]
    rcases c with c | ⟨c1,c2⟩
    ·rcases c with ⟨_,c2,c3⟩ | ⟨i',u,v,l,cv,_,o,_⟩ | ⟨i',E,u,v,l0,ak,j',lv,l,cv,e2,o,h3,e3,h5⟩ | ⟨E,u,off,sz,e2,o,e3,L⟩ | ⟨E,u,e2,o,e3,L⟩
     ·grind [TR,D.Bg]
     ·simp_all
     ·have hF:=X.sr.row E j' l lv cv h5;have O:=(jy.1 hF).1;obtain ⟨x,y,Q,R,u3⟩:=X.bf E O;have q:gS 0 s E=u:=o.Kf;rw[K,q,h3] at Q;rw[hF] at R;simp only[aw] at Q R;subst Q R;rcases u3 with ⟨_,_,_,_,e,_⟩ | ⟨i2,l2,_,_,_,_,e4,e5⟩ | ⟨_,_,_,_,_,e4,_⟩
      ·simp at e
      ·grind [TC.er,D.dO]
      simp_all
     ·grind [TC.er,D.dO,MX.RG]
     grind [TC.er,D.dO,MX.RG]
    grind [D.Bg,GC.low]
  ·exact .inr G.symm }
theorem OB_low(m i:Nat)(l:List (TT i)):(OB (enc i) l).low m=true:=by
 have:∀a:List C,D.low.cF m (a.map .c)=true:=by
  intro a;induction a with
  |nil=>rfl
  |cons c a ih=>simp only[oK,D.low.cF,D.low,ih,IM]
 exact this _
theorem FZ{m:Nat}:∀{ds:List D},(∀d∈ds,d.low m=true)->D.low.cF m ds=true:=by
 intro ds;induction ds with
 |nil=>intro _;rfl
 |cons d ds ih=>
  intro h;simp only[D.low.cF,bJ]
  simp_all
theorem RH.low{U:TH}(H:RH U (U.map TB.er)):(U.map TB.er).all (Ob.low (U.map TB.er).length)=true:=by
 rw[gH];intro E o;rw[jJ] at o;obtain ⟨blk,u,rfl⟩:=o;obtain ⟨b,u⟩:=yBr u;rw[A_];cases blk with
 |cells w x=>refine FZ λd hd=>?_;rw[jJ] at hd;obtain ⟨p,z,rfl⟩:=hd;exact ((H.hg b w x u p z).1).low
 |row i l G K=>exact OB_low _ i l
 |mp j st l v=>have:=GI (st:=st) l 0;simp only[TB.er,Ob.low];rw[gH] at this ⊢;exact λe A=>D.dJ (OL _) (this e A)
theorem eD_low{U:TH}{v:TV}(g:GV U v)(a:nT v):(eD v).low U.length=true:=by
 cases v with
 |c x=>exact GC.low g
 |agg b=>refine FZ λd hd=>?_;rw[jJ] at hd;obtain ⟨x,e,rfl⟩:=hd;exact (g x e).low
 |aT b=>exact a.elim
theorem Xl{m:Nat}{ds:List D}(h:∀d∈ds,d.low m=true):(one ds).low m=true:=by
 cases ds with
 |nil=>rfl
 |cons d ds=>
  cases ds with
  |nil=>exact h d (pe ..)
  |cons a ds=>exact FZ h
theorem XP{ρ:Nat->Nat}{rv a:List TV}(h:aH (λ(v e:TV)=>eD v=(eD e).dO ρ) rv a):one (rv.map eD)=(one (a.map eD)).dO ρ:=by
 have b:rv.map eD=D.dO.wK ρ (a.map eD):=by
  induction h with
  |nil=>rfl
  |cons h _ ih=>grind [D.dO.wK]
 rw[b];cases a with
 |nil=>rfl
 |cons v d=>
  cases d with
  |nil=>rfl
  |cons f d=>rfl
theorem JN(ρ:Nat->Nat):∀{l:List (Value×D×Nat)},(∀e∈l,e.2.1.low 0=true)->(l.map λe=>(e.1,e.2.1.dO ρ,e.2.2))=l:=by
 intro l;induction l with
 |nil=>simp_all
 |cons e l ih=>grind [D.Bg]
theorem MH{ρ:Nat->Nat}{x y:TB}(h:BV ρ x y):y.er=x.er.dO ρ:=by
 rcases h with ⟨w,e,f,a,rfl,rfl,h⟩ | h
 ·simp only[TB.er,Ob.dO,Ob.cells.injEq];rw[Uc];induction h with
  |nil=>rfl
  |cons h _ ih=>simp_all
 ·rw[h.er];rcases h with ⟨i,l,g,k,b,d,rfl,rfl⟩ | ⟨j,st,l,v,o,rfl,rfl⟩
  ·grind [TB.er,Ob.dO,Mg]
  ·have:=GI (st:=st) l 0;rw[gH] at this;simp only[TB.er,Ob.dO,Ob.map.injEq,Qa];exact (JN ρ this).symm
theorem WY{P:Program}{O:KF}(hO:∀p∈O,cS P p.1 p.2):cL.ok P (inlS O):=by
 intro cs gi vs U y ct x rv U2 σD ds h S T G a1 a2;cases cs with
 |nil=>grind
 |cons bi cs=>
  simp only[inlS] at h;split at h
  rotate_left
  ·simp at h
  rename_i k0 k hH;split at h
  rotate_left
  ·simp at h
  rename_i g s hk;split at h
  rotate_left
  ·simp at h
  rename_i bt x0 hg o;split at h
  rotate_left
  ·simp at h
  rename_i W U0 Z;split at h
  rotate_left
  ·simp at h
  rename_i z;simp only[bJ] at z;obtain ⟨z,ad⟩:=z;split at h
  rotate_left
  ·simp at h
  rename_i af _;obtain ⟨y0,a3,hy⟩:=castO (He af) h;have:=cY hg;subst this;obtain ⟨ak,av⟩:=hO _ (yl hk);refine ⟨ak,?_⟩;dsimp only at av;obtain ⟨i,l,z0,a4,ha,hb,ax⟩:=Se af hy S;have hr:=Uw ad i l ct ha hb;unfold absS at o;split at o
  ·simp_all
  rename_i s1 A;split at o
  ·simp_all
  rename_i ms Q;split at o
  rotate_left
  ·simp_all
  rename_i hc;split at o
  rotate_left
  ·simp_all
  rename_i x1 a5;simp only[aw,ba] at o;obtain ⟨rfl,rfl⟩:=o;simp only[bJ,List.isEmpty_iff] at hc;obtain ⟨bu,a6,a7,bv⟩:=hc;obtain ⟨L0⟩:=lh Z;have H0:RH ([]:TH) []:=⟨rfl,λb blk h=>by simp at h,λb w cs h=>by simp at h⟩;obtain ⟨σs,X,a8⟩:=YX (ct:=s.CO) (U:=[]) (U1:=U) (s2:=s1) rfl A (by rw[a7];rfl) Q (by grind) a5 L0 rfl H0 G (λb blk h=>by simp at h) a2
  have bw:U0.length=s.CO.nb.length:=by grind [MX.len]
  let ρ:=TI s.CO.nb.length U.length ms.ρ
  have E:∀i,i<U0.length->gS 0 ms i=ρ i:=λi u=>by simp only[ρ,TI,gS];rw[if_neg (by omega),yh.mpr (by omega)]
  have r:∀k,ρ (U0.length+k)=U.length+k:=λk=>by
   simp only[ρ,TI];have:Nat.blt (U0.length+k) s.CO.nb.length=false:=by
    rw[Bool.eq_false_iff]
    simp_all
   simp_all
  have C0:ij ρ U0.length U0 U:=X.can G a6 z E;have N:Oq 0 σD (U0.map TB.er) (gS 0 ms) (λ_=>False):=by
   have:=X.rnH G
   simp_all
  have hd:aH (c_ σD (U0.map TB.er) (gS 0 ms) (λ_=>False)) ds (W.map eD):=by
   have:=X.valL G a8 a1
   simp_all
  have lt:∀i,i<U0.length->ρ i<U.length:=λi u=>by
   obtain ⟨x,y,u1,u2,_⟩:=C0.bs i u
   grind
  have a0:∀i j,i<U0.length->j<U0.length->ρ i=ρ j->i=j:=λi j u R e=>by rw[<-E i u,<-E j R] at e;exact N.inj i j (by simp_all) (by simp_all) e
  obtain ⟨L⟩:=lh T;obtain ⟨k1,k2,k3,k4,k5,k6⟩:=L.all G;have hr:rCT ρ U0.length l ct=true:=by grind
  obtain ⟨a9,F0,t,bc,CF⟩:=UN a0 hr C0 r lt G L ax;obtain ⟨j1,j2,j3,j4,j5,j6⟩:=L0.all H0;obtain ⟨LF⟩:=lh t;obtain ⟨i1,i2,i3,i4,i5,i6⟩:=LF.all j1;have ok:=av x1 y0 W U0 l z0 a9 F0 a3 Z a4 t;have K:F0.length=U0.length+l.nb.length:=CF.len;have bd:U2.length=U.length+ct.nb.length:=by
   have a:=(kD L.h4).len;have b:=(gn L.h1 G).len
   grind [yW,Laid.h5,Laid.fl]
  have be:ct.nb.length=l.nb.length:=by
   have:∀{ps qs:List NB},yb ρ (U0.length+l.nb.length) ps qs=true->qs.length=ps.length:=by
    intro ps;induction ps with
    |nil=>grind [yb]
    |cons p ps ih=>intro qs h;cases qs with | nil=>grind [yb] | cons q qs=>simp only[yb,bJ] at h;grind
   simp only[rCT,bJ] at hr
   grind
  have g0:=FY LF.h3;have bh:(U0.map TB.er).length=U0.length:=A_ _;have f:(F0.map TB.er).length=F0.length:=A_ _;rw[XP bc];refine relocH ok (by omega) i1.low ?_ (ρ0:=gS 0 ms) (λi u=>E i (by omega)) N hd ?_ ?_ ?_ ?_
  ·rw[f];refine Xl λd hd=>?_;rw[jJ] at hd;obtain ⟨v,hv,rfl⟩:=hd;exact eD_low ((g0 v hv).gv LF.sr) (g0 v hv).nt
  ·intro i j u R e;rw[f] at u R;rcases uS i U0.length with A | A
   ·rcases uS j U0.length with Q | Q
    ·grind
    grind [Nat.exists_eq_add_of_le]
   ·obtain ⟨k,rfl⟩:=yBs A;rw[r] at e;rcases uS j U0.length with Q | Q
    ·grind
    grind [Nat.exists_eq_add_of_le]
  ·grind [Nat.exists_eq_add_of_le,RH.len]
  ·intro i u;rw[f,K] at u;obtain ⟨x,y,u1,u2,u3⟩:=CF.bs i u
   grind [MH]
  ·intro j R;rw[f,K] at R;rcases uS j σD.length with A | A
   ·refine k5 j A λhm=>?_;rw[jJ] at hm;obtain ⟨q,hq,e⟩:=hm;simp only[rCT,bJ] at hr
    grind [Rv]
   ·rw[G.len] at A;obtain ⟨k,rfl⟩:=yBs A;have:l.nb.length<=k:=by
     rcases uS k l.nb.length with Q | Q
     ·exact absurd (r k) (R (U0.length+k) (by omega))
     omega
    rw[xAh (by grind),xAh (by grind [RH.len])]
theorem osp_ok{P:Program}{B:cL}(j:cL.ok P B){g:FuncId}{s:cW}(k:bq P g=true)
  (h:∀x,(match sH s.CO [] x with | some (vs,U)=>B s.VG g vs U | none=>none)=s.f x):cS P g s:=by
 refine ⟨k,λx y vs U ct z rv U2 a f hs l=>?_⟩;rw[<-h x,f] at a;dsimp only at a;obtain ⟨d⟩:=lh f;have o:RH ([]:TH) []:=⟨rfl,λb blk h=>by simp at h,λb w t h=>by simp at h⟩;obtain ⟨p,u,A,E,G,K⟩:=d.all o;have i:=FY d.h3;have q:fo vs (vs.map eD):=by
  have:∀(vs:List TV),(∀v∈vs,nT v)->fo vs (vs.map eD):=by
   intro vs;induction vs with
   |nil=>intro _;exact .nil
   |cons v vs ih=>intro h;exact .cons (RT.eD (h v (pe ..))) (ih λx r=>h x (pG _ r))
  exact this vs λv e=>(i v e).nt
 exact (j s.VG g vs U y ct z rv U2 _ _ a hs l p q λv e=>(i v e).gv d.sr).2
end
end Go.Abs
end
section
namespace Go.Abs
noncomputable section
variable[Gl][Y:Ty]
def tS(P:Program)(O:KF):Prop:=∀p∈O,cS P p.1 p.2
theorem tS.nil{P:Program}:tS P []:=λp h=>by simp at h
theorem tS.cons{P:Program}{O:KF}{g:FuncId}{s:cW}(h:cS P g s)(r:tS P O):tS P ((g,s)::O):=λp i=>by
 rcases me.1 i with rfl | i
 ·exact h
 ·exact r p i
def OU(O:KF)(K:cL):cL:=λa g b U=>match a with
 |[]=>none
 |ct :: a => match ct.H with
  |[(_,k)]=>match Nat.beq k 999999 with | true=>K (ct::a) g b U | false=>inlS O (ct::a) g b U
  |_=>none
theorem Gk{P:Program}{O:KF}{K:cL}(j:tS P O)(k:cL.ok P K):cL.ok P (OU O K):=by
 intro l f g U y ct x rv U2 σD ds h a b i d e;unfold OU at h;split at h
 ·simp at h
 split at h
 ·split at h
  ·exact k _ f g U y ct x rv U2 σD ds h a b i d e
  ·exact WY j _ f g U y ct x rv U2 σD ds h a b i d e
 simp_all
def inlG(P:Program)(S:wj)(N:Nat)(O:KF)(K:cL):cL:=(Nh P S N (OU O K) (resO O) 30).1
theorem YD{P:Program}{S:wj}{N:Nat}{O:KF}{K:cL}(dF:P.follows .mixedOrders=true)(a:mb P S)(b:tS P O)(d:cL.ok P K):cL.ok P (inlG P S N O K):=(Mh dF a (Gk b d) 30).1
def tG(P:Program)(g:Nat)(S:wj)(O:KF)(K:cL)(H:List (Nat×Nat))(J:List (Nat×JH))(C:List (Nat×List CT))(b out:List cR)(N:Nat)(a:rU b):Option (kT out):=
 match P.funcs[g]? with
 |some f => match jI P f true with
  |some d => match bq P g && Nat.ble b.length d.ntmps with
   |true=>tF P S (OU O K) (resO O) H J C 30 d b out N a
   |false=>none
  |none=>none
 |none=>none
theorem tG_ok{P:Program}{g:Nat}{S:wj}{O:KF}{K:cL}{H:List (Nat×Nat)}{J:List (Nat×JH)}{C:List (Nat×List CT)}{b out:List cR}{N:Nat}{f:rU b->Option (kT out)}(dF:P.follows .mixedOrders=true)(e:mb P S)(j:tS P O)(k:cL.ok P K)(h:∀a,tG P g S O K H J C b out N a=f a):bB P g ⟨b,out,f⟩:=by
 intro a r d;dsimp only at a r d ⊢;rw[<-h a] at d;unfold tG at d;split at d
 ·rename_i fn l;split at d
  ·rename_i p o;split at d
   ·rename_i i;simp only[bJ] at i;exact tF_ok dF e l i.1 o ⟨(Mh (B:=OU O K) dF e (Gk j k) 30).1.inl _ _ _ _ _ _ _ _,(Mh (B:=OU O K) dF e (Gk j k) 30).2.two _ _ _ _ _ _ _ _⟩ i.2 d
   simp_all
  simp_all
 simp_all
def oG(P:Program)(g:Nat)(S:wj)(O:KF)(K:cL)(N:Nat)(s:cW)(x:dT s.CO.bN):Option (qf s.VG):=
 match sH s.CO [] x with
 |some (a,U)=>inlG P S N O K s.VG g a U
 |none=>none
theorem oG_ok{P:Program}{g:Nat}{S:wj}{O:KF}{K:cL}{N:Nat}{s:cW}(dF:P.follows .mixedOrders=true)(a:mb P S)(b:tS P O)(d:cL.ok P K)(e:bq P g=true)(h:∀x,oG P g S O K N s x=s.f x):cS P g s:=osp_ok (YD dF a b d) e h
end
end Go.Abs
end
