/- Lemmas. -/
import Derived.Test.YtcndmfkgdaipaaaGreatFwF
import Derived.Test.YtcndmfkgdaipaaaGreatFwB
import Derived.Test.YtcndmfkgdaipaaaGreatFwA
import Derived.Lib.SlKeysI
import Derived.KernelRfl
import Derived.Shelf.Spec.SlicesInsertGrow
import Derived.Test.YtcndmfkgdaipaaaGreatFwD
import Derived.Test.YtcndmfkgdaipaaaGreatFwC
set_option linter.all false
open Go.IntKind (i64 u64)
section
namespace Go.Abs
noncomputable section
variable[Gl][σ:Ty]
variable{Y Y1 F:TH}{σD σ1D:ar}{ct:CT}
def notW_of{b:Nat}{ps:List PC}(h:∀p∈ps,p.rw=true->p.blk≠b):notW (ps.map PC.pl) b/\notM (ps.map PC.pl) b:=by
 refine ⟨λi d=>?_,λj st d=>?_⟩
 ·rw[iX] at d;obtain ⟨p,g,e⟩:=d;cases p with
  |w k o=>simp only[PC.pl,Pl.w.injEq] at e;exact h _ g rfl e.1
  |h=>grind [PC.pl]
  |m=>grind [PC.pl]
 ·rw[iX] at d;obtain ⟨p,g,e⟩:=d;cases p with
  |m k o=>simp only[PC.pl,Pl.m.injEq] at e;exact h _ g rfl e.1
  |h=>grind [PC.pl]
  |w=>grind [PC.pl]
theorem notH_of{b j:Nat}{ps:List PC}(h:∀p,PC.h b j p∉ps):notH (ps.map PC.pl) b j:=by
 intro c d;rw[iX] at d;obtain ⟨p,g,e⟩:=d;cases p with
 |h k o q=>grind [PC.pl]
 |w=>grind [PC.pl]
 |m=>grind [PC.pl]
def mx_of{rs rv:List TV}{x:dF ct.items}{ds:List kw}{s1 s2 s:MS}(hs:eQ (ct.pl.map PC.pl) 0 Y Y1=true)(h1:Kw Y.length Y1 ct.out rs ⟨[],[],[],[]⟩=some s1)(h2:Gq Y.length Y Y1 ct.pl s1=some s2)(h3:DP Y.length Y1 Y.length ct.nb s2=some s)
  (R:(yB (s.ρ.map Prod.snd)&&(s.fz.all (λb=>Nat.ble Y.length b&&!((s.ρ.map Prod.snd).any (Nat.beq b)))&&s.ρ.all λp=>Nat.blt p.1 (Y.length+ct.nb.length)))=true) (h:uG ct.items (s.rw++s.cl)=some x)
  (L:Laid ct Y ds rv F) (af:dS ct.items x=ds) (H:RH Y σD) (H1:RH Y1 σ1D) (E:Ext Y Y1) (g:∀v∈rs,GV Y1 v) :
  ∃X,MX Y Y1 X F s ct.nb.length/\aM (VM Y.length Y1 X s) rs rv:=by
 simp only[bG,iK] at R;obtain ⟨ak,an,a8⟩:=R;have hS:=zdx H hs E;have hg:∀(b:Nat) w d,Y1[b]? = some (.cells w d)->∀p∈d,GC Y1 p.2:=λb w d hb p hp=>(H1.hg b w d hb p hp).1;obtain ⟨La,a1,a2,a3,a4,a5⟩:=mROs_ok h1 g;obtain ⟨L2,Lb,b1,b2,b3,b4,b5,b6,b7⟩:=mPCs_ok hg h2;obtain ⟨L3,Lc,c1,c2,c3,c4,c5,c6⟩:=mNBs_ok hg h3;have hq:ds=L2++(L3++(La++(Lb++(Lc++[])))):=by grind [Xu]
 clear af;subst hq;have Ro:=gJ L.h1 H;have C:=lN L.h4;have S:=L.sr;obtain ⟨n1,_,_⟩:=AE L.h5;obtain ⟨e1,r1⟩:=b6 Y _ _ _ L.h1;have q2:=L.h2;rw[e1] at q2;obtain ⟨e2,r2⟩:=c5 _ _ _ q2;have q3:=L.h3;rw[e2] at q3;obtain ⟨e3,r3⟩:=a5 _ _ _ _ q3;have q4:=L.h4;rw[e3] at q4;have hl:∀(b:Nat) w d w1 t,L.iJ[b]? = some (.cells w d)->Y1[b]? = some (.cells w1 t)->d.length=t.length:=λb w d w1 t x y=>by
  obtain ⟨K,z,o⟩:=hS b _ ((Ro.cells b w d).2 x);obtain ⟨w2,av,rfl,hl,_⟩:=o
  grind
 obtain ⟨e4,r4,r5⟩:=b7 _ _ _ _ _ q4 hl;have q5:=L.h5;rw[e4] at q5;have r6:=c6 _ _ _ _ q5;have ax:L.aC.length=Y.length:=by rw[C.len,Ro.len]
 have Z:F.length=Y.length+ct.nb.length:=by grind [Laid.fl]
 have a0:∀k:Nat,F[Y.length+k]? = L.l[k]?:=λk=>by grind [Laid.fa]
 refine ⟨L.iJ++L.nb,⟨Z,S.len.symm,S,λi hi=>?_,?_,ak,λb hb=>?_,λi hi a9=>?_⟩,aM.mono (λ_ _=>VM.mono (b3.trans c3)) r3⟩
 ·rcases rU i Y.length with m | a6
  ·have aa:gQ Y.length s i=i:=by rw[gQ,if_pos m]
   have hb:=dW m;obtain ⟨K,x1,o⟩:=hS i _ hb;unfold BF;rw[aa];have rm:(∀w d,Y[i]≠.cells w d)->∃x y,Y1[i]? = some x/\F[i]? = some y/\uf x y:=λhn=>by
    rcases r1 i with ⟨N,t2⟩ | ⟨x,y,N,t2,T⟩
    ·have hr:L.iJ[i]? = some Y[i]:=by grind
     have hF:F[i]? = some Y[i]:=by rw[L.lt H m];exact C.same i _ hr hn
     obtain ⟨nw,nm⟩:=notW_of N;refine ⟨K,_,x1,hF,?_⟩;cases r:Y[i] with
     |cells w d=>grind
     |row i0 l lv cv=>rw[r] at o;obtain ⟨l1,bb,bc,rfl,o⟩:=o;obtain ⟨rfl,rfl,rfl⟩:=o nw;exact .inl ⟨_,_,_,_,_,_,rfl,rfl⟩
     |mp j st l v=>rw[r] at o;obtain ⟨j1,bd,l1,U,rfl,o⟩:=o;have:=o nm;rw[this];exact .inr ⟨_,_,_,_,_,rfl,rfl⟩
    ·refine ⟨x,y,N,?_,T⟩;rw[L.lt H m];refine C.same i y t2 λw d e=>?_;subst e;rcases T with ⟨_,_,_,_,_,_,_,e⟩ | ⟨_,_,_,_,_,_,e⟩ <;> simp at e
   cases r:Y[i] with
   |row i0 l lv cv=>grind
   |mp j st l v=>grind
   |cells w d=>
    rw[r] at o hb;obtain ⟨w1,t,rfl,l1,o⟩:=o;have hr:=(Ro.cells i w d).1 hb;obtain ⟨w',a7,N,t2⟩:=r5 i w d hr;obtain ⟨w2,av,T,_,t4,_⟩:=C.fwd i w d hr;rw[N] at T;simp only[au,TB.cells.injEq] at T;obtain ⟨rfl,rfl⟩:=T;refine ⟨_,_,x1,by rw[L.lt H m];exact N,.inl ⟨w1,t,w',a7,rfl,rfl,aM.Hp (by grind) λj a b ha u=>?_⟩⟩;rw[lS,cC] at ha u;obtain ⟨p,ha,rfl⟩:=ha;obtain ⟨q,u,rfl⟩:=u;by_cases ab:∃c,PC.h i j c∈ct.pl
    ·obtain ⟨c,R⟩:=ab;obtain ⟨w3,be,w4,bh,x,y,u1,u2,u3,u4,u5⟩:=r4 i j c R;rw[x1] at u1;rw[N] at u2;simp only[au,TB.cells.injEq] at u1 u2;obtain ⟨_,rfl⟩:=u1;obtain ⟨_,rfl⟩:=u2;rw[ha] at u3;rw[u] at u4;simp only[au] at u3 u4;subst u3 u4;exact .inl (u5.mono c3)
    ·have ad:∀c,PC.h i j c∉ct.pl:=λc R=>ab ⟨c,R⟩;have hj:j<d.length:=by grind
     have h0:=dW hj;have U:=o j _ p h0 ha (notH_of ad);have v2:=t2 j ad;rw[u,h0] at v2;simp only[au] at v2;refine .inr ⟨by grind,?_⟩;rw[U];exact (H.hg i w d hb _ (Av h0)).1
  ·obtain ⟨k,rfl⟩:=yBL a6;have hk:k<ct.nb.length:=by omega
   have O:=dW hk;obtain ⟨u1,u2⟩:=r6 k _ O;unfold BF;rw[a0];by_cases G:∃A,ct.nb[k]=.cells A
   ·obtain ⟨A,e⟩:=G;obtain ⟨b',w,d,ys,U,v2,v3,v4⟩:=u1 A e;rw[gQ,if_neg (by omega),U];exact ⟨_,_,v2,v3,.inl ⟨w,d,0,ys,rfl,rfl,aM.mono (λ_ _ h=>.inl h) v4⟩⟩
   ·have hn:∀A,ct.nb[k]≠.cells A:=λA e=>G ⟨A,e⟩;obtain ⟨b',x,y,U,v2,v3,v4⟩:=r2 k _ O hn;rw[gQ,if_neg (by omega),U,u2 hn]
    grind
 ·exact c4 (b4 (a4 ⟨by simp,by simp⟩))
 ·have:=an b hb;simp only[bG,hZ,yCm] at this;exact ⟨CH this.1,λhm=>this.2 b hm (yC7 b)⟩
 ·obtain ⟨k,rfl⟩:=yBL hi;have hk:k<ct.nb.length:=by omega
  have O:=dW hk;by_cases G:∃A,ct.nb[k]=.cells A
  ·obtain ⟨A,e⟩:=G
   grind
  grind
def absI_mx{rs j:List TV}{x:dF ct.items}{ds:List kw}(h:absI ct Y Y1 rs=some x)(L:Laid ct Y ds j F)(e:dS ct.items x=ds)(H:RH Y σD)(k:RH Y1 σ1D)(E:Ext Y Y1)(g:∀v∈rs,GV Y1 v) :
  ∃s d,MX Y Y1 d F s ct.nb.length/\aM (VM Y.length Y1 d s) rs j:=by
 unfold absI at h;split at h
 ·simp at h
 rename_i hs;split at h
 ·simp at h
 rename_i s1 m;split at h
 ·simp at h
 rename_i r o;split at h
 ·simp at h
 rename_i s p;split at h
 rotate_left
 ·simp at h
 rename_i q;exact ⟨s,mx_of hs m o p q h L e H k E g⟩
theorem ZZ{Y Y1:TH}{rs:List TV}{ct:CT}{x:dF ct.items}:∀{cs:List CT}{y:qq cs},UG Y Y1 rs cs=some y->sS cs y=some ⟨ct,x⟩->absI ct Y Y1 rs=some x:=by
 intro cs;induction cs with
 |nil=>grind
 |cons c cs ih=>
  intro y h hs;cases cs with
  |nil=>
   simp only[UG] at h;simp only[sS,au,yBA] at hs
   grind
  |cons d cs=>
   simp only[UG] at h;split at h
   ·rename_i a e;simp only[au] at h;subst h;simp only[sS,au,yBA] at hs
    grind
   ·split at h
    ·rename_i b hb;simp only[au] at h;subst h;exact ih (y:=b) hb hs
    simp_all
theorem zip3{Y:TH}{vs:List TV}{ds:List D}(a:f_ vs ds):(∀v∈vs,GV Y v)->∀(i t:Nat)(x:RV)(p:Nat),iI t (Bf i vs)=some (x,p)->∃d v,x=.v v/\lk t (jR i ds)=some d/\RT v d/\GV Y v:=by
 induction a with
 |nil=>grind [Bf,iI]
 |cons e _ ih=>
  intro g i t x p h;simp only[Bf,iI] at h;simp only[jR,lk]
  grind
theorem f_.len{vs:List TV}{ds:List D}(a:f_ vs ds):vs.length=ds.length:=by
 induction a with
 |nil=>rfl
 |cons _ _ ih=>simp[ih]
def dj.ok(P:Program)(B:dj):Prop:=∀(j:List CT)(o:FuncId)(s:List TV)(Y:TH)(y:qq j)(ct:CT)(x:dF ct.items)(u:List TV)(A:TH)(σD:ar)(ds:List D),B j o s Y=some y->sS j y=some ⟨ct,x⟩->ma ct Y x=some (u,A)->RH Y σD->f_ s ds->(∀v∈s,GV Y v) ->
 aW P o=true/\Ok P o ds σD (one (u.map eD)) (A.map TB.er)
def dj.ok.inl{P:Program}{B:dj}(E:dj.ok P B)(S:sq)(H:List (Nat×Nat))(J:List (Nat×JH))(C:List (Nat×List CT))(n N:Nat)(X:OG)(G:D_):Za ⟨P,S,H,J,C,n,N,B,X,G⟩:=by
 intro K O R Y y ct x U Z σD ds h o j A s u;obtain ⟨h1,h2⟩:=E K O R Y y ct x U Z σD ds h o j A s u;obtain ⟨L⟩:=lW j;obtain ⟨k1,k2,k3,k4,k5,k6⟩:=L.all A
 grind
def OG.ok(P:Program)(X:OG):Prop:=∀(ct:CT)(s:FuncId)(u:List TV)(Y:TH)(x:List TV)(o:TH)(σD:ar)(ds:List D),X ct s u Y=some (x,o)->RH Y σD->f_ u ds->(∀v∈u,GV Y v) ->
 aW P s=true/\∃r j,RH o j/\RT (wC x) r/\GV o (wC x)/\Ext Y o/\Ok P s ds σD r j/\(∀b,b<σD.length->j[b]? = σD[b]?)
def OG.ok.two{P:Program}{X:OG}(j:OG.ok P X)(S:sq)(H:List (Nat×Nat))(J:List (Nat×JH))(C:List (Nat×List CT))(n N:Nat)(B:dj)(o:D_):ExOk ⟨P,S,H,J,C,n,N,B,X,o⟩:=j
theorem inl1xok{P:Program}{S:sq}{N:Nat}{B I:dj}{X:OG}{T:D_}(dG:P.follows .mixedOrders=true)(hS:fF P S)(hB:dj.ok P B)(hI:dj.ok P I)(hX:OG.ok P X):dj.ok P (inl1 P S N B T I X):=by
 intro G gi U Y y ct x Z K σD ds h k m q o r;cases G with
 |nil=>grind
 |cons g G=>
  simp only[inl1] at h;split at h
  ·exact hB _ gi U Y y ct x Z K σD ds h k m q o r
  split at h
  ·rename_i fn hg;split at h
   ·rename_i E hc;split at h
    ·rename_i he;simp only[bG] at he;obtain ⟨L⟩:=lW m;have R0:Ref (Bf 0 U) Y (jR 0 ds) σD:=⟨q,λt x p h=>by
      obtain ⟨d,v,rfl,h1,h2,h3⟩:=zip3 o r 0 t x p h;exact ⟨d,h1,h2,h3⟩⟩
     refine ⟨he.1,?_⟩;refine pD hg hc (by rw[<-o.len];simp_all) ?_;refine (Ws ⟨P,S,g.H,g.J,g.C,E.ntmps,N,I,X,T⟩ dG hS ⟨hI.inl _ _ _ _ _ _ _ _,hX.two _ _ _ _ _ _ _ _⟩ E.body 1 _ _ _ y _ _ h R0).fh λx' u e hP=>.inl ?_;obtain ⟨O,A,p1,_,p3,p4⟩:=hP;have fin:(match Gf (FK O A) E.results with | some rs=>UG Y A rs (g::G) | none=>none)=some y->∃j ρ F,E.results.mapM (oP u e)=some j/\SJ σD.length e (K.map TB.er) ρ F/\(∀b,F b->σD.length<=b)/\dv e (K.map TB.er) ρ F (one j) (one (Z.map eD)):=by
      intro h4;split at h4
      ·rename_i rs R;obtain ⟨j,h5,h6,h7⟩:=Jf p1 R;have h8:=ZZ h4 k;obtain ⟨s,aa,X,hv⟩:=absI_mx h8 L rfl q p1.hh p3 h7;refine ⟨j,_,_,h5,by rw[q.len];exact X.rnH p1.hh,λb hb=>by rw[q.len];exact (X.fz b hb).1,X.vals p1.hh hv h6⟩
      simp_all
     cases x' with
     |exit i=>grind
     |normal=>grind
     |ret=>grind
    simp_all
   simp_all
  simp_all
def Wl{n:Nat}{x:TC}(h:WG n x=true):x≠.any:=λe=>by grind [WG]
theorem Pp{Y:TH}{x:TC}(h:WG Y.length x=true):GC Y x:=by
 cases x with
 |d x=>exact h
 |own=>grind [WG]
 |op=>grind [WG]
 |ap=>grind [WG]
 |os=>grind [WG]
 |Gt=>grind [WG]
 |_=>trivial
theorem exV_eD{n:Nat}{v:TV}{d:D}(h:exV n v=true)(r:RT v d):d=eD v:=by
 cases v with
 |c x=>exact RT.c1 (Wl h) r
 |agg e=>obtain ⟨ds,rfl,g⟩:=r;simp only[exV,iK] at h;rw[g.eq λy j=>Wl (h y j)];rfl
 |aV e=>grind [exV]
theorem exV_nt{n:Nat}{v:TV}(h:exV n v=true):nT v:=by
 cases v with
 |aV d=>grind [exV]
 |_=>trivial
theorem exV_gv{Y:TH}{v:TV}(h:exV Y.length v=true):GV Y v:=by
 cases v with
 |c x=>exact Pp h
 |agg d=>simp only[exV,iK] at h;exact λx e=>Pp (h x e)
 |aV d=>grind [exV]
theorem exVs_eD{n:Nat}:∀{vs:List TV}{ds:List D},vs.all (exV n)=true->f_ vs ds->ds=vs.map eD:=by
 intro vs;induction vs with
 |nil=>intro ds _ h;cases h;rfl
 |cons v vs ih=>
  intro ds h a;cases a with
  |cons r a=>
   simp only[SW,bG] at h
   grind [exV_eD]
def IF{pl:List Pl}{Y Y1:TH}(h:eQ pl 0 Y Y1=true):Y.length<=Y1.length:=by
 rcases rU Y1.length Y.length with d | e
 ·obtain ⟨blk,g,_⟩:=Ch h Y1.length _ (dW d)
  simp_all
 omega
def QI{P:Program}{g:FuncId}{fn:Func}{u:kP}{fz:Bool}{ds:List D}{r:D}{Y aC:ar}(hg:P.funcs[g]? = some fn)(y:il P fn fz=some u)(A:ds.length<=u.ntmps)
  (h:Sem P u.body u.ntmps (jR 0 ds) Y λx al Y1=>(x=.normal\/x=.ret)/\∃e,u.results.mapM (oP al Y1)=some e/\Y1=aC/\one e=r):Ok P g ds Y r aC:=by
 unfold il at y;split at y
 ·rename_i c hb;split at y
  ·rename_i ac rs h1 h2;simp only[au] at y;subst y;dsimp only at h A;intro M Fz w s R hs N;refine nf hg hb ?_;have A0:ed fn.ntmps Y M Fz w (jR 0 ds) (s++Array.replicate (fn.ntmps-s.size) undef):=by
    refine ⟨by simp_all,λt d O=>?_⟩;obtain ⟨_,h3⟩:=Ek ds 0 t d O;rw[yC5] at h3;have S:t<s.size:=by grind
    exact ⟨s[t],by grind,N t d _ h3 (qB S)⟩
   refine Ng (h c h1 M Fz w { tmps:=s++Array.replicate (fn.ntmps-s.size) undef,defers:=[] } _ R A0 λx j m a' w' M' T hQ hd R' L EV hl=>?_);obtain ⟨hx,e,hm,rfl,rfl⟩:=hQ;have U:rs.mapM (NZ (xU fn.ntmps j) m)=some e:=by
    have an:∀(l:List (Nat×Option (Option Nat))) e,l.mapM (oP j m)=some e->l.mapM (NZ (xU fn.ntmps j) m)=some e:=by
     intro l;induction l with
     |nil=>simp_all
     |cons p l ih=>
      intro e h;rw[US] at h ⊢;cases E:oP j m p with
      |none=>simp_all
      |some d=>
       rw[E] at h;have:NZ (xU fn.ntmps j) m p=some d:=by
        obtain ⟨t,o⟩:=p;cases o with
        |none=>exact L.de.2.2 t d E
        |some k=>
         simp only[oP] at E;split at E
         ·rename_i b off sz X;simp only[NZ,L.de.2.2 t _ X];exact E
         simp_all
       rw[this];cases hr:l.mapM (oP j m) with
       |none=>simp_all
       |some q=>simp_all
    simp_all
   have Z:y_ x=.normal\/y_ x=.ret:=by rcases hx with rfl | rfl <;> simp[y_]
   refine ⟨Z,Mk.end hd R' EV λaa G K mv=>?_⟩;have ab:ed fn.ntmps m M' T aa j a'.tmps:=⟨L.1,λt d O=>by obtain ⟨v,q1,q2⟩:=L.2 t d O;exact ⟨v,q1,mv d v q2⟩⟩
   obtain ⟨v,ad,ak⟩:=js (P:=P) G ab.de.1 h2 U;exact ⟨v,ad,v,_,_,rfl,G,ak,K⟩
  simp_all
 simp_all
theorem SB.er0{b:Nat}{x y:TB}(h:SB [] b x y):y.er=x.er:=by
 cases x with
 |cells w A=>
  obtain ⟨w1,s,rfl,hl,o⟩:=h;simp only[TB.er,Ob.cells.injEq];apply VW;intro j;rw[lS,lS];cases e:A[j]? with
  |none=>simp_all
  |some p=>
   have E:j<s.length:=by grind
   have:=o j p _ e (dW E) (λc u=>by grind)
   grind
 |row i l U X=>
  obtain ⟨G,K,O,rfl,o⟩:=h;obtain ⟨rfl,_,_⟩:=o λc u=>by grind
  rfl
 |mp j st l v=>obtain ⟨Z,R,G,v1,e,o⟩:=h;rw[o λc st u=>by grind]
def ex1xok{P:Program}{S:sq}{N:Nat}{I:dj}{X:OG}{R:D_}(dG:P.follows .mixedOrders=true)(hS:fF P S)(hI:dj.ok P I)(hX:OG.ok P X):OG.ok P (ex1 P S N R I X):=by
 intro ct gi vs Y rv aC σD ds h u m y;unfold ex1 at h;split at h
 ·rename_i fn hg;split at h
  ·rename_i r hc;split at h
   ·rename_i U;simp only[bG] at U;have R0:Ref (Bf 0 vs) Y (jR 0 ds) σD:=⟨u,λt x p h=>by
     obtain ⟨d,v,rfl,g,h2,h3⟩:=zip3 m y 0 t x p h;exact ⟨d,g,h2,h3⟩⟩
    obtain ⟨⟨rs,Y1⟩,h,s⟩:=AP h;have T:=Ws ⟨P,S,ct.H,ct.J,ct.C,r.ntmps,N,I,X,R⟩ dG hS ⟨hI.inl _ _ _ _ _ _ _ _,hX.two _ _ _ _ _ _ _ _⟩ r.body 1 _ _ _ (rs,Y1) _ _ h R0;dsimp only at s;split at s
    rotate_left
    ·grind
    rename_i hk;simp only[bG] at hk;obtain ⟨Z,hs,hb⟩:=hk;simp only[au,aU] at s;obtain ⟨rfl,rfl⟩:=s;have aa:=IF hs;have ad:(Y++Y1.drop Y.length).length=Y1.length:=by simp_all
    have xt:Ext Y (Y++Y1.drop Y.length):=λb blk h=>⟨blk,by grind,BE.refl blk⟩;have A:RH (Y++Y1.drop Y.length) ((Y++Y1.drop Y.length).map TB.er):=by
     refine RH.mk' λb w cs e p hp=>?_;rcases rU b Y.length with g | g
     ·rw[FF g] at e;obtain ⟨g1,g2⟩:=u.hg b w cs e p hp;exact ⟨g1.mono xt,g2⟩
     ·rw[Np g] at e;rw[iK] at hb;have:=hb _ (Av e);simp only[sBlk,iK,bG] at this;obtain ⟨t1,t2⟩:=this p hp;exact ⟨Pp (by simp_all),CH t2⟩
    rw[iK] at Z;have E:∀v∈rs,nT v:=λv hv=>exV_nt (Z v hv);have G:∀v∈rs,GV (Y++Y1.drop Y.length) v:=λv hv=>exV_gv (by simp_all);refine ⟨U.1,one (rs.map eD),(Y++Y1.drop Y.length).map TB.er,A,RW E,Si G,xt,?_,λb e=>?_⟩
    ·refine QI hg hc (by rw[<-m.len];simp_all) (T.fh λx' o k hP=>.inl ?_);obtain ⟨K,q,p1,_,p3,p4⟩:=hP;have fin:(match Gf (FK K q) r.results with | some rs=>some (rs,q) | none=>none)=some (rs,Y1)->∃j,r.results.mapM (oP o k)=some j/\k=(Y++Y1.drop Y.length).map TB.er/\one j=one (rs.map eD):=by
      intro L;split at L
      ·rename_i ak O;simp only[au,aU] at L;obtain ⟨rfl,rfl⟩:=L;obtain ⟨j,h5,h6,h7⟩:=Jf p1 O;refine ⟨j,h5,?_,by grind [exVs_eD]⟩;rw[p1.hh.eqD];apply VW;intro b;rw[lS,lS];rcases rU b Y.length with g | g
       ·rw[FF g];obtain ⟨ab,e1,e2⟩:=zdx u hs p3 b _ (dW g)
        grind [SB.er0]
       grind [Nat.add_sub_cancel']
      simp_all
     cases x' with
     |exit i=>grind
     |normal=>exact ⟨.inl rfl,fin p4⟩
     |ret=>exact ⟨.inr rfl,fin p4⟩
    grind [RH.eqD]
   simp_all
  simp_all
 simp_all
theorem OP{P:Program}{S:sq}{N:Nat}{B:dj}{e:D_}(dG:P.follows .mixedOrders=true)(g:fF P S)(j:dj.ok P B):∀(d:Nat),dj.ok P (Ph P S N B e d).1/\OG.ok P (Ph P S N B e d).2:=by
 intro d;induction d with
 |zero=>exact ⟨λq k m Y y ct x o p σD ds h=>by grind [Ph],λct k m Y o p σD ds h=>by grind [Ph]⟩
 |succ d ih=>exact ⟨inl1xok dG g j ih.1 ih.2,ex1xok dG g ih.1 ih.2⟩
end
end Go.Abs
end
section
namespace Go.Abs
variable[Gl]
def D.eG(ρ:Nat->Nat):D->D
 |.c x=>.c x
 |.any=>.any
 |.ptr b o s=>.ptr (ρ b) o s
 |.sl b o l e s=>.sl (ρ b) o l e s
 |.mp b=>.mp (ρ b)
 |.fn f a b=>.fn f (wE ρ a) (wE ρ b)
 |.agg ds=>.agg (wE ρ ds)
 |.aV ds=>.aV (wE ρ ds)
where wE (ρ:Nat->Nat):List D->List D
 |[]=>[]
 |d::ds=>d.eG ρ::wE ρ ds
theorem DZ(ρ:Nat->Nat)(l:List D):D.eG.wE ρ l=l.map (D.eG ρ):=by
 induction l with
 |nil=>rfl
 |cons d l ih=>grind [D.eG.wE]
theorem kr(ρ:Nat->Nat)(l:List D)(i:Nat):(D.eG.wE ρ l)[i]? = (l[i]?).map (D.eG ρ):=by rw[DZ,lS]
theorem mq(ρ:Nat->Nat)(l:List D):(D.eG.wE ρ l).length=l.length:=by rw[DZ,vR]
def Ob.eG(ρ:Nat->Nat):Ob->Ob
 |.cells o=>.cells (o.map (D.eG ρ))
 |.map es j=>.map (es.map λe=>(e.1,e.2.1.eG ρ,e.2.2)) j
 |.gone n=>.gone n
theorem Ob.rD(ρ:Nat->Nat)(ob:Ob):(ob.eG ρ).sz=ob.sz:=by cases ob <;> simp[Ob.eG,Ob.sz]
section
variable{Y H:ar}{M:Nat->Option Nat}{Fz:Nat->Prop}{w:World}{ρ:Nat->Nat}
theorem V.back{n:Nat}{R:Nat->Option Nat}(hM:∀i,i<n->R i=M (ρ i))(A:∀i,i<n->Y[ρ i]? = (H[i]?).map (Ob.eG ρ)){d:D}{v:Value}(h:V Y M Fz w (d.eG ρ) v):d.low n=true->V H R Fz w d v:=by
 generalize j:d.eG ρ=d' at h;induction h generalizing d with
 |c h=>intro _;cases d <;> simp only[D.eG,reduceCtorEq,D.c.injEq] at j;subst j;exact .c h
 |any v=>intro _;cases d <;> simp only[D.eG,reduceCtorEq] at j;exact .any v
 |ptr a U h s x=>
  intro hl;cases d <;> simp only[D.eG,reduceCtorEq,D.ptr.injEq] at j
  obtain ⟨rfl,rfl,rfl⟩:=j;simp only[D.low,bz] at hl;rw[A _ hl,cC] at h;obtain ⟨u,o,rfl⟩:=h;rw[Ob.rD] at s x;exact .ptr a u o s λe=>by simp_all
 |sl a Z cap G U h s x=>
  intro hl;cases d <;> simp only[D.eG,reduceCtorEq,D.sl.injEq] at j
  obtain ⟨rfl,rfl,rfl,rfl,rfl⟩:=j;simp only[D.low,bz] at hl;rw[A _ hl,cC] at h;obtain ⟨u,o,rfl⟩:=h;rw[Ob.rD] at s x;exact .sl a Z cap G u o s λe=>by simp_all
 |mp c U h x=>
  intro hl;cases d <;> simp only[D.eG,reduceCtorEq,D.mp.injEq] at j
  subst j;simp only[D.low,bz] at hl;rw[A _ hl,cC] at h;obtain ⟨u,o,rfl⟩:=h;rw[Ob.rD] at x;exact .mp c u o λe=>by simp_all
 |fn E ws o X x hw K O=>
  intro hl;cases d <;> simp only[D.eG,reduceCtorEq,D.fn.injEq] at j
  obtain ⟨rfl,rfl,rfl⟩:=j;simp only[D.low,bG] at hl;rw[mq] at o X;exact .fn E ws o X (λi d v a b=>K i _ v (by grind [kr]) b rfl (D.a_ hl.1 i d a)) (λi d v a b=>O i _ v (by grind [kr]) b rfl (D.a_ hl.2 i d a))
 |agg E o x ih=>
  intro hl;cases d <;> simp only[D.eG,reduceCtorEq,D.agg.injEq] at j
  subst j;simp only[D.low] at hl;rw[mq] at o;exact .agg E o (λi d v a b=>ih i _ v (by grind [kr]) b rfl (D.a_ hl i d a))
 |aV E o x ih=>
  intro hl;cases d <;> simp only[D.eG,reduceCtorEq,D.aV.injEq] at j
  subst j;simp only[D.low] at hl;rw[mq] at o;exact .aV E o (λi d v a b=>ih i _ v (by grind [kr]) b rfl (D.a_ hl i d a))
theorem V.Mn{n:Nat}{A:Nat->Option Nat}(G:∀i,i<n->M (ρ i)=A i)(K:∀i,i<n->Y[ρ i]? = (H[i]?).map (Ob.eG ρ)){d:D}{v:Value}(h:V H A Fz w d v):d.low n=true->V Y M Fz w (d.eG ρ) v:=by
 induction h with
 |c h=>intro _;exact .c h
 |any v=>intro _;exact .any v
 |ptr a o h u j=>intro hl;simp only[D.low,bz] at hl;exact .ptr a (o.eG ρ) (by simp_all) (by grind [Ob.rD]) λe=>by grind [Ob.rD]
 |sl a O cap x o h u j=>intro hl;simp only[D.low,bz] at hl;exact .sl a O cap x (o.eG ρ) (by simp_all) (by grind [Ob.rD]) λe=>by rw[G _ hl];exact j (by grind [Ob.rD])
 |mp c o h j=>intro hl;simp only[D.low,bz] at hl;exact .mp c (o.eG ρ) (by simp_all) λe=>by grind [Ob.rD]
 |fn s R E Z j hw U X=>
  intro hl;simp only[D.low,bG] at hl;refine .fn s R (by grind [mq]) (by grind [mq]) (λi d v a b=>?_) (λi d v a b=>?_)
  ·grind [kr,D.a_]
  grind [kr,D.a_]
 |agg s E j ih=>
  intro hl;simp only[D.low] at hl;refine .agg s (by grind [mq]) (λi d v a b=>?_)
  grind [kr,D.a_]
 |aV s E j ih=>
  intro hl;simp only[D.low] at hl;refine .aV s (by grind [mq]) (λi d v a b=>?_)
  grind [kr,D.a_]
theorem ca.back{n:Nat}{E:Nat->Option Nat}(K:∀i,i<n->E i=M (ρ i))(u:∀i,i<n->Y[ρ i]? = (H[i]?).map (Ob.eG ρ)){ob:Ob}{o:Obj}(hl:ob.low n=true)(h:ca Y M Fz w (ob.eG ρ) o):ca H E Fz w ob o:=by
 cases ob with
 |cells U=>obtain ⟨j,T,rfl,s,G⟩:=h;simp only[vR] at s;refine ⟨j,T,rfl,s,λi d v a b=>?_⟩;obtain ⟨O,R⟩:=G i (d.eG ρ) v (by simp_all) b;exact ⟨V.back K u O (D.a_ hl i d a),R⟩
 |map es x=>
  obtain ⟨j,A,s,G⟩:=h;simp only[vR] at s;refine ⟨j,A,s,λi k d m e a b=>?_⟩
  grind [Ob.low,V.back]
 |gone m=>exact h
theorem ca.Mn{n:Nat}{A:Nat->Option Nat}(K:∀i,i<n->M (ρ i)=A i)(s:∀i,i<n->Y[ρ i]? = (H[i]?).map (Ob.eG ρ)){ob:Ob}{o:Obj}(hl:ob.low n=true)(h:ca H A Fz w ob o):ca Y M Fz w (ob.eG ρ) o:=by
 cases ob with
 |cells X=>obtain ⟨j,T,rfl,O,E⟩:=h;refine ⟨j,T,rfl,by simp_all,λi d v a b=>?_⟩;rw[lS,cC] at a;obtain ⟨G,a,rfl⟩:=a;obtain ⟨R,U⟩:=E i G v a b;exact ⟨V.Mn K s R (D.a_ hl i G a),U⟩
 |map es u=>
  obtain ⟨j,x,O,E⟩:=h;refine ⟨j,x,by simp_all,λi k d m e a b=>?_⟩
  grind [Ob.low,V.Mn]
 |gone m=>exact h
end
end Go.Abs
end
section
namespace Go.Abs
noncomputable section
variable[Gl][σ:Ty]
def dg(P:Program)(g:FuncId)(s:dC):Prop:=aW P g=true/\∀(x:dF s.AQ.items)(y:qq s.Qu)(d:List TV)(Y:TH)(ct:CT)(z:dF ct.items)(e:List TV)(h:TH),
 s.f x=some y->ma s.AQ [] x=some (d,Y)->sS s.Qu y=some ⟨ct,z⟩->ma ct Y z=some (e,h)->Ok P g (d.map eD) (Y.map TB.er) (one (e.map eD)) (h.map TB.er)
theorem D.Df(ρ:Nat->Nat){d:D}(h:d.low 0=true):d.eG ρ=d:=by
 have j:∀(k:Nat)(d:D),SizeOf.sizeOf d<k->d.low 0=true->d.eG ρ=d:=by
  intro k;induction k with
  |zero=>omega
  |succ k ih=>
   have cW:∀(ds:List D),SizeOf.sizeOf ds<k+1->D.low.cW 0 ds=true->D.eG.wE ρ ds=ds:=by
    intro ds;induction ds with
    |nil=>intro _ _;rfl
    |cons x ds u=>
     intro hs h;simp only[D.low.cW,bG,List.cons.sizeOf_spec] at h hs
     grind [D.eG.wE]
   intro d hs h;cases d with
   |c x=>rfl
   |any=>rfl
   |ptr b o s=>grind [D.low]
   |sl b o l e s=>grind [D.low]
   |mp b=>grind [D.low]
   |fn f a b=>
    simp only[D.low,bG,D.fn.sizeOf_spec] at h hs
    grind [D.eG]
   |agg ds=>grind [D.low,D.eG]
   |aV ds=>grind [D.low,D.eG]
 exact j (SizeOf.sizeOf d+1) d (Nat.lt_succ_self _) h
theorem QT(ρ:Nat->Nat)(l:List C):(l.map D.c).map (D.eG ρ)=l.map D.c:=by rw[UX];rfl
theorem Lu(ρ:Nat->Nat)(c:CC)(a:c.dn):(tc c a).er.eG ρ=(tc c a).er:=by rw[lu];rfl
theorem exp_ren(ρ:Nat->Nat)(i:Nat)(a:TT i):((exp i a).map TC.er).map (D.eG ρ)=(exp i a).map TC.er:=by rw[vj,UX];rfl
def Fo(ρ:Nat->Nat)(x y:TB):Prop:=(∃w e g d,x=.cells w e/\y=.cells g d/\aM (λ(a b:Nat×TC)=>b.2.er=a.2.er.eG ρ) e d)\/uf x y
structure iQ (ρ:Nat->Nat) (n:Nat) (Y0 Y:TH):Prop where
 len:Y0.length=n
 bs:∀i,i<n->∃x y,Y0[i]? = some x/\Y[ρ i]? = some y/\Fo ρ x y
variable{ρ:Nat->Nat}{n m0:Nat}{Y0 Y:TH}
def iQ.set(h:iQ ρ n Y0 Y)(inj:∀i j,i<n->j<n->ρ i=ρ j->i=j){b:Nat}(hb:b<n){x y:TB}(o:Fo ρ x y):iQ ρ n (Y0.set b x) (Y.set (ρ b) y):={
 len:=by rw[WD];exact h.len
 bs:=λi hi=>by
  by_cases e:i=b
  ·subst e;obtain ⟨s,u,h1,h2,_⟩:=h.bs i hi
   grind
  ·obtain ⟨s,u,h1,h2,A⟩:=h.bs i hi
   grind }
def iQ.row(h:iQ ρ n Y0 Y){b i:Nat}(hb:b<n){l:List (TT i)}{u A:Nat}(E:Y[ρ b]? = some (.row i l u A)):∃j o,Y0[b]? = some (.row i l j o):=by
 obtain ⟨x,y,X,s,G⟩:=h.bs b hb;rw[E] at s;simp only[au] at s;subst s;rcases G with ⟨_,_,_,_,_,e,_⟩ | ⟨Z,l',K,O,R,U,e1,e2⟩ | ⟨_,_,_,_,_,_,e⟩
 ·simp at e
 ·grind
 simp_all
theorem iQ.mp(h:iQ ρ n Y0 Y){b j:Nat}{st:Bool}(hb:b<n){l:List (Int×TT j)}{v:Nat}(s:Y[ρ b]? = some (.mp j st l v)):∃u,Y0[b]? = some (.mp j st l u):=by
 obtain ⟨x,y,G,o,A⟩:=h.bs b hb;rw[s] at o;simp only[au] at o;subst o;rcases A with ⟨_,_,_,_,_,e,_⟩ | ⟨_,_,_,_,_,_,_,e⟩ | ⟨K,E,O,R,U,X,Z⟩
 ·simp at e
 ·simp at e
 grind
theorem iQ.cells(h:iQ ρ n Y0 Y){b:Nat}(hb:b<n){w:Nat}{cs:List (Nat×TC)}(u:Y[ρ b]? = some (.cells w cs)):∃s j,Y0[b]? = some (.cells s j)/\aM (λ(a b:Nat×TC)=>b.2.er=a.2.er.eG ρ) j cs:=by
 obtain ⟨x,y,G,o,A⟩:=h.bs b hb;rw[u] at o;simp only[au] at o;subst o;rcases A with ⟨s,j,K,E,O,R,U⟩ | ⟨_,_,_,_,_,_,_,e⟩ | ⟨_,_,_,_,_,_,e⟩
 ·grind
 ·simp at e
 simp_all
def Kj{p q:CP}{ds r:List kw}{y:TC}(j:rCP ρ n p q=true)(h:iQ ρ n Y0 Y)(g:tQ Y q ds=some (y,r)):∃u,tQ Y0 p ds=some (u,r)/\y.er=u.er.eG ρ:=by
 unfold rCP at j;split at j
 ·rename_i a b;have:=of_decide_eq_true j;subst this;cases ds with
  |nil=>grind [tQ]
  |cons d ds=>
   simp only[tQ] at g ⊢
   grind [Lu]
 ·cases ds with
  |nil=>grind [tQ]
  |cons d ds=>
   simp only[tQ] at g ⊢;split at g
   ·rename_i v x;simp only[au,aU] at g;obtain ⟨rfl,rfl⟩:=g;exact ⟨_,rfl,rfl⟩
   simp_all
 ·rename_i a b;have:=dd j;subst this;cases ds with
  |nil=>grind [tQ]
  |cons d ds=>
   simp only[tQ] at g ⊢;split at g
   ·rename_i v x;simp only[au,aU] at g;obtain ⟨rfl,rfl⟩:=g;exact ⟨_,rfl,rfl⟩
   simp_all
 ·rename_i b t;simp only[bG] at j;have e:=dd j.1;have hb:=tR.mp j.2;subst e;simp only[tQ] at g ⊢;split at g
  ·rename_i i l L N hs;simp only[au,aU] at g;obtain ⟨rfl,rfl⟩:=g;obtain ⟨A,E,G⟩:=h.row hb hs;rw[G];exact ⟨_,rfl,rfl⟩
  simp_all
 ·rename_i b o s t O K;simp only[bG] at j;obtain ⟨e,hb,k,m⟩:=j;have e:=dd e;have hb:=tR.mp hb;have k:=dd k;have m:=dd m;subst e k m;simp only[tQ] at g ⊢;split at g
  ·simp only[au,aU] at g;obtain ⟨rfl,rfl⟩:=g;rw[h.len,tR.mpr hb];exact ⟨_,rfl,rfl⟩
  simp_all
 ·rename_i b t;simp only[bG] at j;have e:=dd j.1;have hb:=tR.mp j.2;subst e;simp only[tQ] at g ⊢;split at g
  ·simp only[au,aU] at g;obtain ⟨rfl,rfl⟩:=g;rw[h.len,tR.mpr hb];exact ⟨_,rfl,rfl⟩
  simp_all
 ·rename_i f b s R t K;simp only[bG] at j;obtain ⟨e,hb,k,m⟩:=j;have e:=dd e;have hb:=tR.mp hb;have k:=dd k;have m:=dd m;subst e k m;simp only[tQ] at g ⊢;split at g
  ·simp only[au,aU] at g;obtain ⟨rfl,rfl⟩:=g;rw[h.len,tR.mpr hb];exact ⟨_,rfl,rfl⟩
  simp_all
 ·rename_i d S;have:=Wm j;subst this;simp only[tQ] at g ⊢;split at g
  ·rename_i hl;simp only[au,aU] at g;obtain ⟨rfl,rfl⟩:=g;exact ⟨_,rfl,(D.Df ρ hl).symm⟩
  simp_all
 simp_all
theorem LG:∀{ps g:List CP}{ds r:List kw}{j:List TC},QB ρ n ps g=true->iQ ρ n Y0 Y->Ag Y g ds=some (j,r)->∃d,Ag Y0 ps ds=some (d,r)/\aM (λ(y m:TC)=>y.er=m.er.eG ρ) j d:=by
 intro ps;induction ps with
 |nil=>
  intro g ds r j k h e;cases g with
  |nil=>simp only[Ag,au,aU] at e;obtain ⟨rfl,rfl⟩:=e;exact ⟨[],rfl,.nil⟩
  |cons _ _=>grind [QB]
 |cons p ps ih=>
  intro g ds r j k h e;cases g with
  |nil=>grind [QB]
  |cons q g=>
   simp only[QB,bG] at k;simp only[Ag] at e;split at e
   ·rename_i x v o;split at e
    ·rename_i A E s;simp only[au,aU] at e;obtain ⟨rfl,rfl⟩:=e;obtain ⟨m,G,t⟩:=Kj k.1 h o;obtain ⟨d,K,u⟩:=ih k.2 h s;exact ⟨m::d,by grind [Ag],.cons t u⟩
    simp_all
   simp_all
def eqVC_eq{a b:dt}(h:eqVC a b=true):a=b:=by
 unfold eqVC at h;split at h
 ·simp_all
 ·simp_all
 ·simp_all
 ·simp_all
 simp_all
theorem aM.Pz{o j:List TC}(h:aM (λ(y s:TC)=>y.er=s.er.eG ρ) o j):o.map TC.er=D.eG.wE ρ (j.map TC.er):=by
 induction h with
 |nil=>rfl
 |cons h _ ih=>grind [D.eG.wE]
def pRO_sim{p q:RO}{ds r:List kw}{v:TV}(j:rRO ρ n p q=true)(h:iQ ρ n Y0 Y)(e:zh Y q ds=some (v,r)):∃t,zh Y0 p ds=some (t,r)/\eD v=(eD t).eG ρ:=by
 unfold rRO at j;split at j
 ·rename_i a b;have:=eqVC_eq j;subst this;cases ds with
  |nil=>grind [zh]
  |cons d ds=>
   cases a with
   |c c=>
    simp only[zh] at e ⊢;split at e
    ·simp only[au,aU] at e;obtain ⟨rfl,rfl⟩:=e;exact ⟨_,rfl,(Lu ρ _ _).symm⟩
    simp_all
   |st i=>
    simp only[zh] at e ⊢;split at e
    ·simp only[au,aU] at e;obtain ⟨rfl,rfl⟩:=e;refine ⟨_,rfl,?_⟩
     grind [eD,D.eG,DZ,exp_ren]
    simp_all
   |fp i=>
    simp only[zh] at e ⊢;split at e
    ·simp only[au,aU] at e;obtain ⟨rfl,rfl⟩:=e;exact ⟨_,rfl,rfl⟩
    simp_all
   |k g=>grind [zh]
 ·rename_i a b;simp only[zh] at e;split at e
  ·rename_i x u m;simp only[au,aU] at e;obtain ⟨rfl,rfl⟩:=e;obtain ⟨o,y,s⟩:=Kj j h m;exact ⟨.c o,by grind [zh],s⟩
  simp_all
 ·rename_i a b;simp only[zh] at e;split at e
  ·rename_i A u m;simp only[au,aU] at e;obtain ⟨rfl,rfl⟩:=e;obtain ⟨o,y,s⟩:=LG j h m;refine ⟨.agg o,by grind [zh],?_⟩;simp only[eD,D.eG,s.Pz]
  simp_all
 simp_all
theorem pROs_sim:∀{ps e:List RO}{ds r:List kw}{vs:List TV},UE ρ n ps e=true->iQ ρ n Y0 Y->kz Y e ds=some (vs,r)->∃g,kz Y0 ps ds=some (g,r)/\aM (λ(v m:TV)=>eD v=(eD m).eG ρ) vs g:=by
 intro ps;induction ps with
 |nil=>
  intro e ds r o j h d;cases e with
  |nil=>simp only[kz,au,aU] at d;obtain ⟨rfl,rfl⟩:=d;exact ⟨[],rfl,.nil⟩
  |cons _ _=>grind [UE]
 |cons p ps ih=>
  intro e ds r o j h d;cases e with
  |nil=>grind [UE]
  |cons q e=>
   simp only[UE,bG] at j;simp only[kz] at d;split at d
   ·rename_i x E s;split at d
    ·rename_i G K t;simp only[au,aU] at d;obtain ⟨rfl,rfl⟩:=d;obtain ⟨u,L,y⟩:=pRO_sim j.1 h s;obtain ⟨k,N,A⟩:=ih j.2 h t;exact ⟨u::k,by grind [kz],.cons y A⟩
    simp_all
   simp_all
theorem Ut(inj:∀i j,i<m0->j<m0->ρ i=ρ j->i=j):∀{ps o:List PC}{Y0 Y u:TH}{ds r:List kw},Be ρ m0 n ps o=true->iQ ρ m0 Y0 Y->cd Y o ds=some (u,r)->∃g,cd Y0 ps ds=some (g,r)/\iQ ρ m0 g u:=by
 intro ps;induction ps with
 |nil=>
  intro o Y0 Y u ds r x h m;cases o with
  |nil=>simp only[cd,au,aU] at m;obtain ⟨rfl,rfl⟩:=m;exact ⟨Y0,rfl,h⟩
  |cons _ _=>grind [Be]
 |cons p ps ih=>
  intro o Y0 Y u ds r x h m;cases o with
  |nil=>grind [Be]
  |cons q o=>
   simp only[Be,bG] at x;obtain ⟨k,t⟩:=x;unfold rPC at k;split at k
   ·grind [cd]
   ·rename_i b i G i';simp only[bG] at k;obtain ⟨e,hb,s⟩:=k;have e:=dd e;have hb:=tR.mp hb;have s:=dd s;subst e s;cases ds with
    |nil=>grind [cd]
    |cons d ds=>
     simp only[cd] at m;split at m
     ·rename_i l j K L N O y;split at m
      ·rename_i R;have:=dd R;subst this;obtain ⟨A,E,S⟩:=h.row hb y;obtain ⟨g,T,U⟩:=ih t (h.set inj hb (.inr (.inl ⟨j,l,A+1,E+1,L+1,N+1,rfl,rfl⟩))) m
       grind [cd]
      simp_all
     simp_all
   ·rename_i b j st G j' X;simp only[bG,lA] at k;obtain ⟨e,hb,s,Z⟩:=k;have e:=dd e;have hb:=tR.mp hb;have s:=dd s;subst e s Z;cases ds with
    |nil=>grind [cd]
    |cons d ds=>
     simp only[cd] at m;split at m
     ·rename_i l j0 aa K v O y;obtain ⟨v0,S⟩:=h.mp hb y;obtain ⟨g,T,U⟩:=ih t (h.set inj hb (.inr (.inr ⟨j,st,l,v0+1,v+1,rfl,rfl⟩))) m
      grind [cd]
     simp_all
   simp_all
theorem Zw:∀{ps g:List NB}{ds r:List kw}{l:TH},Ax ρ n ps g=true->dx g ds=some (l,r)->dx ps ds=some (l,r):=by
 intro ps;induction ps with
 |nil=>grind [Ax]
 |cons p ps ih=>
  intro g ds r l h k;cases g with
  |nil=>grind [Ax]
  |cons q g=>
   simp only[Ax,bG] at h;obtain ⟨e,j⟩:=h;unfold rNB at e;split at e
   ·grind [dx]
   ·have:=dd e;subst this;cases ds with
    |nil=>grind [dx]
    |cons d ds=>grind [dx]
   ·simp only[bG,lA] at e;have:=dd e.1;subst this;have:=e.2;subst this;cases ds with
    |nil=>grind [dx]
    |cons d ds=>grind [dx]
   simp_all
theorem aM.set{α o:Type}{R:α->o->Prop}{l:List α}{m:List o}(h:aM R l m){a:α}{b:o}(s:R a b):∀j:Nat,aM R (l.set j a) (m.set j b):=by
 induction h with
 |nil=>intro j;exact .nil
 |cons h r ih=>
  intro j;cases j with
  |zero=>exact .cons s r
  |succ j=>exact .cons h (ih j)
theorem Wy(inj:∀i j,i<m0->j<m0->ρ i=ρ j->i=j){k s:TH}(hs:iQ ρ n k s):∀{ps m:List PC}{Y0 Y t:TH}{ds r:List kw},Be ρ m0 n ps m=true->iQ ρ m0 Y0 Y->dU s m Y ds=some (t,r)->∃d,dU k ps Y0 ds=some (d,r)/\iQ ρ m0 d t:=by
 intro ps;induction ps with
 |nil=>
  intro m Y0 Y t ds r u h o;cases m with
  |nil=>simp only[dU,au,aU] at o;obtain ⟨rfl,rfl⟩:=o;exact ⟨Y0,rfl,h⟩
  |cons _ _=>grind [Be]
 |cons p ps ih=>
  intro m Y0 Y t ds r u h o;cases m with
  |nil=>grind [Be]
  |cons q m=>
   simp only[Be,bG] at u;obtain ⟨g,v⟩:=u;unfold rPC at g;split at g
   ·rename_i b j p S T U;simp only[bG] at g;obtain ⟨e,hb,y,E⟩:=g;have e:=dd e;have hb:=tR.mp hb;have y:=dd y;subst e y;simp only[dU] at o;split at o
    ·rename_i x X w Z G K;obtain ⟨L,a1,N⟩:=Kj E hs G;obtain ⟨A,O,h3,R⟩:=h.cells hb K;obtain ⟨d,b1,b2⟩:=ih v (h.set inj hb (.inl ⟨A+1,_,w+1,_,rfl,rfl,R.set (a:=(A+1,L)) (b:=(w+1,x)) N j⟩)) o
     grind [dU]
    simp_all
   ·grind [dU]
   ·grind [dU]
   simp_all
theorem Yb{e v:TH}(hs:iQ ρ n e v):∀{ps j:List NB}{g l:TH}{ds:List kw},Ax ρ n ps j=true->(∀b∈g,Fo ρ b b)->dP v j g ds=some l->∃s,dP e ps g ds=some s/\aM (Fo ρ) s l:=by
 intro ps;induction ps with
 |nil=>
  intro j g l ds y hb d;cases j with
  |nil=>simp only[dP,au] at d;subst d;exact ⟨[],rfl,.nil⟩
  |cons _ _=>grind [Ax]
 |cons p ps ih=>
  intro j g l ds y hb d;cases j with
  |nil=>grind [Ax]
  |cons q j=>
   simp only[Ax,bG] at y;obtain ⟨k,m⟩:=y;cases g with
   |nil=>grind [dP]
   |cons b g=>
    have o:∀b∈g,Fo ρ b b:=λx L=>hb x (o_ _ L);unfold rNB at k;split at k
    ·rename_i N O;simp only[dP] at d;split at d
     ·rename_i T r G;split at d
      ·rename_i K t;simp only[au] at d;subst d;obtain ⟨A,R,S⟩:=LG k hs G;obtain ⟨s,E,u⟩:=ih m o t;refine ⟨.cells 0 (A.map λx=>(0,x))::s,by grind [dP],.cons (.inl ⟨0,_,0,_,rfl,rfl,?_⟩) u⟩;clear E u R G t ih;induction S with
       |nil=>exact .nil
       |cons h _ ih=>exact .cons h ih
      simp_all
     simp_all
    ·simp only[dP] at d;split at d
     ·rename_i K t;simp only[au] at d;subst d;obtain ⟨s,E,u⟩:=ih m o t;exact ⟨_,by grind [dP],.cons (hb b (qY ..)) u⟩
     simp_all
    ·simp only[dP] at d;split at d
     ·rename_i K t;simp only[au] at d;subst d;obtain ⟨s,E,u⟩:=ih m o t;exact ⟨_,by grind [dP],.cons (hb b (qY ..)) u⟩
     simp_all
    simp_all
theorem Fo.new{o:List NB}{ds r:List kw}{l:TH}(h:dx o ds=some (l,r)):∀b∈l,Fo ρ b b:=by
 intro b hb;obtain ⟨k,hk⟩:=yBH hb;cases b with
 |cells w x=>have:=(yZ h k).1 w x hk;subst this;exact .inl ⟨w,[],w,[],rfl,rfl,.nil⟩
 |row i l s u=>exact .inr (.inl ⟨i,l,s,u,s,u,rfl,rfl⟩)
 |mp j st l v=>exact .inr (.inr ⟨j,st,l,v,v,rfl,rfl⟩)
def iQ.VF(h:iQ ρ m0 Y0 Y){j l:TH}(hl:aM (Fo ρ) j l)(s:∀k,ρ (m0+k)=Y.length+k)(lt:∀i,i<m0->ρ i<Y.length):iQ ρ (m0+j.length) (Y0++j) (Y++l):={
 len:=by rw[zJ,h.len]
 bs:=λi hi=>by
  rcases rU i m0 with o | o
  ·obtain ⟨x,y,a,b,c⟩:=h.bs i o
   grind
  ·obtain ⟨k,rfl⟩:=yBL o;have hk:k<j.length:=by omega
   obtain ⟨y,a,b⟩:=hl.get k _ (dW hk)
   grind [iQ.len] }
theorem aM.refl'{α:Type}{R:α->α->Prop}{l:List α}(h:∀b∈l,R b b):aM R l l:=by
 induction l with
 |nil=>exact .nil
 |cons a l ih=>exact .cons (h a (qY ..)) (ih λb hb=>h b (o_ _ hb))
def Zo{d ct:CT}{F:TH}{u:List TV}{ds:List kw}{x:dF d.items}(inj:∀i j,i<m0->j<m0->ρ i=ρ j->i=j)(y:rCT ρ m0 d ct=true)(hs:iQ ρ m0 Y0 Y)(K:∀k,ρ (m0+k)=Y.length+k)(lt:∀i,i<m0->ρ i<Y.length)
  {σD:ar} (H:RH Y σD) (L:Laid ct Y ds u F) (X:dS d.items x=ds) :
  ∃e F0,ma d Y0 x=some (e,F0)/\aM (λ(v N:TV)=>eD v=(eD N).eG ρ) u e/\iQ ρ (m0+d.nb.length) F0 F:=by
 simp only[rCT,bG] at y;obtain ⟨q,g,h⟩:=y;have A:=gJ L.h1 H;have C:=lN L.h4;obtain ⟨m,Z,E⟩:=Ut inj g hs L.h1;have r:=Zw h L.h2;have o:L.nb.length=d.nb.length:=DF r;have s:iQ ρ (m0+d.nb.length) (m++L.nb) (L.iJ++L.nb):=by rw[<-o];exact E.VF (aM.refl' (Fo.new r)) (by grind [yY.len]) (by grind [yY.len])
 obtain ⟨e,c1,O⟩:=pROs_sim q s L.h3;obtain ⟨p,d1,R⟩:=Wy inj s g E L.h4;obtain ⟨G,S,T⟩:=Yb s h (Fo.new r) L.h5;have t:G.length=d.nb.length:=(AE S).1;refine ⟨e,p++G,?_,O,?_⟩
 ·grind [ma]
 ·have U:F=L.aC++L.l:=L.e;rw[U,<-t];exact R.VF T (by rw[C.len,A.len];exact K) (by rw[C.len,A.len];exact lt)
end
end Go.Abs
end
section
namespace Go.Abs
noncomputable section
variable[Gl][σ:Ty]
def relocH{P:Program}{g:FuncId}{ds L:List D}{H p:ar}{r:D}(ok:Ok P g L H r p)(af:H.length<=p.length)
  (aa:p.all (Ob.low p.length)=true) (hr:r.low p.length=true)
  {Y Y':ar} {ρ ρ0:Nat->Nat} (ag:∀i,i<H.length->ρ0 i=ρ i) (N:SJ 0 Y H ρ0 (λ_=>False)) (hd:aM (dv Y H ρ0 (λ_=>False)) ds L)
  (inj:∀i j,i<p.length->j<p.length->ρ i=ρ j->i=j) (hi:∀i,H.length<=i->i<p.length->Y.length<=ρ i)
  (s2:∀i,i<p.length->Y'[ρ i]? = (p[i]?).map (Ob.eG ρ)) (s3:∀j,(∀i,i<p.length->ρ i≠j)->Y'[j]? = Y[j]?) :
  Ok P g ds Y (r.eG ρ) Y':=by
 intro M Fz w vs R hs hv
 let G:Nat->Option Nat:=mN H.length ρ0 M
 have eF:∀Fz:Nat->Prop,fzN (λ_=>False) M Fz=Fz:=λFz=>by
  funext c;refine propext ⟨λh=>?_,.inl⟩;rcases h with h | ⟨b,h,_⟩
  ·exact h
  simp_all
 have ak:∀i,i<H.length->G i=M (ρ i):=λi h=>by simp only[G,mN,h,if_true,ag i h]
 have y:∀i c,G i=some c->i<H.length/\M (ρ i)=some c:=λi c h=>by grind [mN]
 have R0:Rel H G Fz w:=by
  have:=N.rel R
  grind
 refine (ok G Fz w vs R0 (by rw[hs,hd.len]) (λi d v a b=>by
  obtain ⟨d1,O,h2⟩:=hd.get' i d a;have:=h2 M Fz w v R (hv i d1 v O b)
  grind)).mono λe w' he=>?_
 obtain ⟨v,M1,S,rfl,T,an,u⟩:=he;have av:∀i c,M1 i=some c->i<p.length:=λi c h=>by
  obtain ⟨_,ob,o,h2,_⟩:=T.blk i c h
  grind
 let m:Nat->Option Nat:=λj=>(List.range p.length).find? λi=>ρ i == j
 have s:∀i,i<p.length->m (ρ i)=some i:=λi h=>by
  cases e:m (ρ i) with
  |none=>grind
  |some k=>grind
 have q:∀j i,m j=some i->i<p.length/\ρ i=j:=λj i e=>⟨yCd.1 (yBB e),by grind⟩;have t:∀j,m j=none->∀i,i<p.length->ρ i≠j:=λj e i h=>by grind
 let U:Nat->Option Nat:=λj=>match m j with | some i=>M1 i | none=>M j
 have m1:∀j i,m j=some i->U j=M1 i:=λj i h=>by grind
 have m2:∀j,m j=none->U j=M j:=λj h=>by grind
 have ab:∀i,i<p.length->U (ρ i)=M1 i:=λi h=>m1 _ _ (s i h);have apart:∀j c b,m j=none->M j=some c->G b≠some c:=λj c b O h2 A=>by obtain ⟨hb,A⟩:=y b c A;exact t j O b (by omega) (R.inj _ _ _ A h2)
 have lt:∀j c,M j=some c->c<w.heap.size:=λj c h=>by
  obtain ⟨_,_,o,_,A,_⟩:=R.blk j c h
  grind
 have ad:bF Y M Fz w Y' U S w':={
  size:=u.size
  frame:=λc hc hn=>u.frame c hc λb hb=>hn (ρ b) (y b c hb).2
  lP:=λj c h=>by
   cases e:m j with
   |some i=>
    rw[m1 j i e] at h;rcases u.lP i c h with ⟨b0,x⟩ | x
    ·grind
    omega
   |none=>grind
  fz:=u.fz
  nF:=λc h=>by
   rcases u.nF c h with x | ⟨b,x⟩ | x
   ·grind
   ·grind
   omega
  qe:=u.qe
  keep:=λj ob h=>by
   cases e:m j with
   |some i=>
    obtain ⟨O,h2⟩:=q j i e;have hj:j<Y.length:=(fq.1 h).1;have X:i<H.length:=by grind
    obtain ⟨q1,q2,q3,q4,q5⟩:=N.sz i X;rw[ag i X,h2,h] at q3;simp only[au] at q3;subst q3;obtain ⟨ax,h4,h5,h6⟩:=u.keep i q2 q4
    grind [Ob.rD]
   |none=>grind
  out:=u.out }
 have R2:Rel Y' U S w':={
  blk:=λj c h=>by
   cases e:m j with
   |some i=>rw[m1 j i e] at h;obtain ⟨O,h2⟩:=q j i e;obtain ⟨A,ob,o,h4,h5,h6⟩:=T.blk i c h;exact ⟨A,ob.eG ρ,o,by grind,h5,ca.Mn ab s2 (iK.1 aa _ (Av h4)) h6⟩
   |none=>
    rw[m2 j e] at h;obtain ⟨A,ob,o,h4,h5,h6⟩:=R.blk j c h;refine ⟨λhf=>?_,ob,o,by grind,by rw[u.frame c (lt j c h) λb=>apart j c b e h];exact h5,h6.mono ad⟩;rcases u.nF c hf with x | ⟨b,x⟩ | x
    ·grind
    ·grind
    grind
  inj:=λj K c h E=>by
   cases e:m j with
   |some i=>
    rw[m1 j i e] at h;cases Z:m K with
    |some i'=>
     rw[m1 K i' Z] at E;have:=T.inj i i' c h E
     grind
    |none=>
     rw[m2 K Z] at E;rcases u.lP i c h with ⟨b0,x⟩ | x
     ·grind
     grind
   |none=>
    rw[m2 j e] at h;cases Z:m K with
    |some i'=>
     rw[m1 K i' Z] at E;rcases u.lP i' c E with ⟨b0,x⟩ | x
     ·grind
     grind
    |none=>rw[m2 K Z] at E;exact R.inj _ _ _ h E
  fz:=T.fz
  gl:=T.gl }
 grind [V.Mn]
def castO{α d:Type}(e:α=d){o:Option α}{y:d}(h:cast (Ig Option e) o=some y):∃g,o=some g/\HEq g y:=by grind
def GD{i j:List It}(e:i=j){x:dF i}{y:dF j}(h:HEq x y):dS i x=dS j y:=by grind
def sum_heq{A B d g:Type}(e:A=d)(e':B=g){x:A ⊕ B}{y:d ⊕ g}(h:HEq x y):(∃a j,x=.inl a/\y=.inl j/\HEq a j)\/(∃b k,x=.inr b/\y=.inr k/\HEq b k):=by grind
theorem Xx:∀{a b:List CT},a.map CT.items=b.map CT.items->∀{j:qq a}{y:qq b}{ct:CT}{x:dF ct.items},HEq j y->sS b y=some ⟨ct,x⟩ ->
  ∃(i:Nat)(g:CT)(k:dF g.items),sS a j=some ⟨g,k⟩/\a[i]? = some g/\b[i]? = some ct/\dS g.items k=dS ct.items x:=by
 intro a;induction a with
 |nil=>grind
 |cons c a ih=>
  intro b e j y ct x m hs;cases b with
  |nil=>simp at e
  |cons d b=>
   simp only[rS,yCi] at e;cases a with
   |nil=>
    cases b with
    |cons _ _=>simp at e
    |nil=>simp only[sS,au,yBA] at hs;obtain ⟨rfl,hs⟩:=hs;cases hs;exact ⟨0,c,j,rfl,rfl,rfl,GD e.1 m⟩
   |cons s a=>
    cases b with
    |nil=>simp at e
    |cons t b=>
     rcases sum_heq (by rw[e.1]) (Kt e.2) m with ⟨u,v,rfl,rfl,h⟩ | ⟨u,v,rfl,rfl,h⟩
     ·simp only[sS,au,yBA] at hs;obtain ⟨rfl,hs⟩:=hs;cases hs;exact ⟨0,c,u,rfl,rfl,rfl,GD e.1 h⟩
     ·obtain ⟨i,g,k,o,p,q,r⟩:=ih e.2 h hs;exact ⟨i+1,g,k,o,p,q,r⟩
theorem ZK{ρ:Nat->Nat}{m0:Nat}:∀{a b:List CT},rCTs ρ m0 a b=true->∀(i:Nat) c d,a[i]? = some c->b[i]? = some d->rCT ρ m0 c d=true:=by
 intro a;induction a with
 |nil=>simp_all
 |cons x a ih=>
  intro b h i c d e g;cases b with
  |nil=>grind
  |cons y b=>
   simp only[rCTs,bG] at h
   grind
theorem YK{ρ:Nat->Nat}{m0 n:Nat}:∀{ps e:List PC},Be ρ m0 n ps e=true->∀q∈e,∃b,b<m0/\q.blk=ρ b:=by
 intro ps;induction ps with
 |nil=>grind [Be]
 |cons p ps ih=>
  intro e h q g;cases e with
  |nil=>grind
  |cons j e=>
   simp only[Be,bG] at h;rcases gy.1 g with rfl | g
   ·have d:=h.1;unfold rPC at d;split at d
    ·simp only[bG] at d;exact ⟨_,tR.mp d.2.1,(dd d.1).symm⟩
    ·simp only[bG] at d;exact ⟨_,tR.mp d.2.1,(dd d.1).symm⟩
    ·simp only[bG] at d;exact ⟨_,tR.mp d.2.1,(dd d.1).symm⟩
    simp_all
   grind
theorem ZR{x y:TC}(d:x=.d (.c (.lit (.slice none 0 0))))(h:(!(yt x) || yt y)=true):x=y:=by
 subst d;simp only[yt,Ot,Bool.false_or] at h
 grind
theorem exC_get:∀{xs d:List (Nat×TC)},Wo.exC xs d=true->∀(j:Nat) x y,xs[j]? = some x->d[j]? = some y->(!(yt x.2) || yt y.2)=true:=by
 intro xs;induction xs with
 |nil=>simp_all
 |cons a xs ih=>
  intro d h j x y e g;cases d with
  |nil=>grind
  |cons b d=>
   obtain ⟨_,a⟩:=a;obtain ⟨_,b⟩:=b;simp only[Wo.exC,bG] at h
   grind
theorem exN_get{Y:TH}{ρ:List (Nat×Nat)}:∀{d:TH}{e:Nat},Wo Y ρ e d=true->∀(i:Nat) w g k xs,d[i]? = some (.cells w g)->Y[(oW (e+i) ρ).getD 0]? = some (.cells k xs)->Wo.exC xs g=true:=by
 intro d;induction d with
 |nil=>simp_all
 |cons b d ih=>
  intro e h i w g k xs j m;cases i with
  |zero=>
   simp only[xF,au] at j;subst j;simp only[Wo,bG] at h
   simp_all
  |succ i=>
   simp only[yBu] at j;have o:Wo Y ρ (e+1) d=true:=by
    cases b with
    |cells w p=>simp only[Wo,bG] at h;exact h.2
    |row=>exact h
    |mp=>exact h
   grind
def uf.symm{x y:TB}(h:uf x y):uf y x:=by
 rcases h with ⟨i,l,u,A,o,s,rfl,rfl⟩ | ⟨j,st,l,v,E,rfl,rfl⟩
 ·exact .inl ⟨i,l,o,s,u,A,rfl,rfl⟩
 ·exact .inr ⟨j,st,l,E,v,rfl,rfl⟩
def MX.can{Y R F:TH}{σD:ar}{s:MS}{n:Nat}(X:MX [] Y R F s n)(H1:RH Y σD)(hf:s.fz=[])(he:Wo Y s.ρ 0 F=true){ρ:Nat->Nat}(ad:∀i,i<F.length->gQ 0 s i=ρ i):iQ ρ F.length F Y:={
 len:=rfl
 bs:=λi hi=>by
  obtain ⟨x,y,h1,h2,h3⟩:=X.bf i hi;have hl:([]:TH).length=0:=rfl;rw[hl] at h1;refine ⟨y,x,h2,by simp_all,?_⟩;rcases h3 with ⟨w,cs,w',G,rfl,rfl,O⟩ | O
  ·refine .inl ⟨w',G,w,cs,rfl,rfl,?_⟩;have ab:gQ 0 s i=(oW i s.ρ).getD 0:=by rw[gQ,if_neg (by omega)]
   have ex:=exN_get he i w' G w cs h2 (by simp_all);refine aM.Hp ?_ λj a b ha hb=>?_
   ·have:=O.len
    simp_all
   ·have c:=(O.get j b.2 (by simp_all));obtain ⟨a',A,c⟩:=c;rw[lS,ha] at A;simp only[Cs,au] at A;subst A;have e1:=exC_get ex j b a hb ha;have blk:∀b u:Nat,Bd 0 s b u->b<F.length->u=ρ b:=λb u hb hl=>by grind [Bd.KQ]
    rcases c with c | ⟨c1,c2⟩
    ·rcases c with ⟨_,c2,c3⟩ | ⟨i',u,v,l,cv,_,o,_⟩ | ⟨i',E,u,v,l0,af,j',lv,l,cv,U,o,h3,Z,h5⟩ | ⟨E,u,off,sz,U,o,Z,K⟩ | ⟨E,u,U,o,Z,K⟩ | ⟨f1,E,u,sz,U,o,Z,K⟩
     ·grind [ZR,D.Df]
     ·simp_all
     ·have hF:=X.sr.row E j' l lv cv h5;have aa:=(fq.1 hF).1;obtain ⟨x,y,u1,u2,u3⟩:=X.bf E aa;have q:gQ 0 s E=u:=o.KQ;rw[hl,q,h3] at u1;rw[hF] at u2;simp only[au] at u1 u2;subst u1 u2;rcases u3 with ⟨_,_,_,_,e,_⟩ | ⟨i2,l2,_,_,_,_,e4,e5⟩ | ⟨_,_,_,_,_,e4,_⟩
      ·simp at e
      ·grind [TC.er,D.eG]
      simp_all
     ·grind [TC.er,D.eG,MX.PD]
     ·grind [TC.er,D.eG,MX.PD]
     grind [TC.er,D.eG,D.eG.wE,MX.PD]
    grind [D.Df,GC.low]
  ·exact .inr O.symm }
def OB_low(m i:Nat)(l:List (TT i)):(OB (enc i) l).low m=true:=by
 have:∀d:List C,D.low.cW m (d.map .c)=true:=by
  intro d;induction d with
  |nil=>rfl
  |cons c d ih=>simp only[rS,D.low.cW,D.low,ih,Qm]
 exact this _
theorem Kf{m:Nat}:∀{ds:List D},(∀d∈ds,d.low m=true)->D.low.cW m ds=true:=by
 intro ds;induction ds with
 |nil=>intro _;rfl
 |cons d ds ih=>
  intro h;simp only[D.low.cW,bG]
  simp_all
theorem RH.low{Y:TH}(H:RH Y (Y.map TB.er)):(Y.map TB.er).all (Ob.low (Y.map TB.er).length)=true:=by
 rw[iK];intro E o;rw[iX] at o;obtain ⟨blk,hb,rfl⟩:=o;obtain ⟨b,hb⟩:=yBH hb;rw[vR];cases blk with
 |cells w u=>refine Kf λd s=>?_;rw[iX] at s;obtain ⟨p,x,rfl⟩:=s;exact ((H.hg b w u hb p x).1).low
 |row i l G K=>exact OB_low _ i l
 |mp j st l v=>have:=Jo (st:=st) l 0;simp only[TB.er,Ob.low];rw[iK] at this ⊢;exact λe A=>D.eK (Qf _) (this e A)
theorem eD_low{Y:TH}{v:TV}(g:GV Y v)(h:nT v):(eD v).low Y.length=true:=by
 cases v with
 |c x=>exact GC.low g
 |agg j=>refine Kf λd e=>?_;rw[iX] at e;obtain ⟨x,k,rfl⟩:=e;exact (g x k).low
 |aV j=>exact h.elim
theorem one_low{m:Nat}{ds:List D}(h:∀d∈ds,d.low m=true):(one ds).low m=true:=by
 cases ds with
 |nil=>rfl
 |cons d ds=>
  cases ds with
  |nil=>exact h d (qY ..)
  |cons e ds=>exact Kf h
theorem one_ren{ρ:Nat->Nat}{e d:List TV}(h:aM (λ(v k:TV)=>eD v=(eD k).eG ρ) e d):one (e.map eD)=(one (d.map eD)).eG ρ:=by
 have g:e.map eD=D.eG.wE ρ (d.map eD):=by
  induction h with
  |nil=>rfl
  |cons h _ ih=>grind [D.eG.wE]
 rw[g];cases d with
 |nil=>rfl
 |cons v j=>
  cases j with
  |nil=>rfl
  |cons m j=>rfl
theorem Mw(ρ:Nat->Nat):∀{l:List (Value×D×Nat)},(∀e∈l,e.2.1.low 0=true)->(l.map λe=>(e.1,e.2.1.eG ρ,e.2.2))=l:=by
 intro l;induction l with
 |nil=>simp_all
 |cons e l ih=>grind [D.Df]
theorem Pz{ρ:Nat->Nat}{x y:TB}(h:Fo ρ x y):y.er=x.er.eG ρ:=by
 rcases h with ⟨w,k,m,d,rfl,rfl,h⟩ | h
 ·simp only[TB.er,Ob.eG,Ob.cells.injEq];rw[UX];induction h with
  |nil=>rfl
  |cons h _ ih=>simp_all
 ·rw[h.er];rcases h with ⟨i,l,o,p,e,g,rfl,rfl⟩ | ⟨j,st,l,v,q,rfl,rfl⟩
  ·grind [TB.er,Ob.eG,QT]
  ·have:=Jo (st:=st) l 0;rw[iK] at this;simp only[TB.er,Ob.eG,Ob.map.injEq,NT];exact (Mw ρ this).symm
theorem inlS_ok{P:Program}{O:OH}(hO:∀p∈O,dg P p.1 p.2):dj.ok P (inlS O):=by
 intro cs gi vs Y y ct x rv aC σD ds h U Z K a0 a1;cases cs with
 |nil=>grind
 |cons bi cs=>
  simp only[inlS] at h;split at h
  rotate_left
  ·simp at h
  rename_i k0 k hH;split at h
  rotate_left
  ·simp at h
  rename_i g s hk;split at h
  rotate_left
  ·simp at h
  rename_i bk x0 hg r;split at h
  rotate_left
  ·simp at h
  rename_i aa Y0 ab;split at h
  rotate_left
  ·simp at h
  rename_i A;simp only[bG] at A;obtain ⟨A,ad⟩:=A;split at h
  rotate_left
  ·simp at h
  rename_i af _;obtain ⟨y0,a2,hy⟩:=castO (Kt af) h;have:=dd hg;subst this;obtain ⟨ak,an⟩:=hO _ (Av hk);refine ⟨ak,?_⟩;dsimp only at an;obtain ⟨i,o,z0,a5,ha,hb,av⟩:=Xx af hy U;have hr:=ZK ad i o ct ha hb;unfold absS at r;split at r
  ·simp_all
  rename_i s1 E;split at r
  ·simp_all
  rename_i ms S;split at r
  rotate_left
  ·simp_all
  rename_i hc;split at r
  rotate_left
  ·simp_all
  rename_i x1 a6;simp only[au,aU] at r;obtain ⟨rfl,rfl⟩:=r;simp only[bG,List.isEmpty_iff] at hc;obtain ⟨bl,a7,a8,bt⟩:=hc;obtain ⟨L0⟩:=lW ab;have H0:RH ([]:TH) []:=⟨rfl,λb blk h=>by simp at h,λb w cs h=>by simp at h⟩;obtain ⟨bu,X,a9⟩:=mx_of (ct:=s.AQ) (Y:=[]) (Y1:=Y) (s2:=s1) rfl E (by rw[a8];rfl) S (by grind) a6 L0 rfl H0 K (λb blk h=>by simp at h) a1
  have bv:Y0.length=s.AQ.nb.length:=by grind [MX.len]
  let ρ:=WL s.AQ.nb.length Y.length ms.ρ
  have G:∀i,i<Y0.length->gQ 0 ms i=ρ i:=λi hi=>by simp only[ρ,WL,gQ];rw[if_neg (by omega),tR.mpr (by omega)]
  have t:∀k,ρ (Y0.length+k)=Y.length+k:=λk=>by
   simp only[ρ,WL];have:Nat.blt (Y0.length+k) s.AQ.nb.length=false:=by
    rw[Bool.eq_false_iff]
    simp_all
   simp_all
  have C0:iQ ρ Y0.length Y0 Y:=X.can K a7 A G;have N:SJ 0 σD (Y0.map TB.er) (gQ 0 ms) (λ_=>False):=by
   have:=X.rnH K
   simp_all
  have hd:aM (dv σD (Y0.map TB.er) (gQ 0 ms) (λ_=>False)) ds (aa.map eD):=by
   have:=X.valL K a9 a0
   simp_all
  have lt:∀i,i<Y0.length->ρ i<Y.length:=λi hi=>by
   obtain ⟨x,y,u1,u2,_⟩:=C0.bs i hi
   grind
  have ax:∀i j,i<Y0.length->j<Y0.length->ρ i=ρ j->i=j:=λi j hi T e=>by rw[<-G i hi,<-G j T] at e;exact N.inj i j (by simp_all) (by simp_all) e
  obtain ⟨L⟩:=lW Z;obtain ⟨k1,k2,k3,k4,k5,k6⟩:=L.all K;have hr:rCT ρ Y0.length o ct=true:=by grind
  obtain ⟨bb,F0,u,bc,CF⟩:=Zo ax hr C0 t lt K L av;obtain ⟨j1,j2,j3,j4,j5,j6⟩:=L0.all H0;obtain ⟨LF⟩:=lW u;obtain ⟨i1,i2,i3,i4,i5,i6⟩:=LF.all j1;have ok:=an x1 y0 aa Y0 o z0 bb F0 a2 ab a5 u;have R:F0.length=Y0.length+o.nb.length:=CF.len;have bd:aC.length=Y.length+ct.nb.length:=by
   have a:=(lN L.h4).len;have b:=(gJ L.h1 K).len
   grind [AE,Laid.h5,Laid.fl]
  have be:ct.nb.length=o.nb.length:=by
   have:∀{ps qs:List NB},Ax ρ (Y0.length+o.nb.length) ps qs=true->qs.length=ps.length:=by
    intro ps;induction ps with
    |nil=>grind [Ax]
    |cons p ps ih=>intro qs h;cases qs with | nil=>grind [Ax] | cons q qs=>simp only[Ax,bG] at h;grind
   simp only[rCT,bG] at hr
   grind
  have g0:=Ju LF.h3;have bh:(Y0.map TB.er).length=Y0.length:=vR _;have m:(F0.map TB.er).length=F0.length:=vR _;rw[one_ren bc];refine relocH ok (by omega) i1.low ?_ (ρ0:=gQ 0 ms) (λi hi=>G i (by omega)) N hd ?_ ?_ ?_ ?_
  ·rw[m];refine one_low λd hd=>?_;rw[iX] at hd;obtain ⟨v,hv,rfl⟩:=hd;exact eD_low ((g0 v hv).gv LF.sr) (g0 v hv).nt
  ·intro i j hi T e;rw[m] at hi T;rcases rU i Y0.length with E | E
   ·rcases rU j Y0.length with S | S
    ·grind
    grind [Nat.exists_eq_add_of_le]
   ·obtain ⟨k,rfl⟩:=yBL E;rw[t] at e;rcases rU j Y0.length with S | S
    ·grind
    grind [Nat.exists_eq_add_of_le]
  ·grind [Nat.exists_eq_add_of_le,RH.len]
  ·intro i hi;rw[m,R] at hi;obtain ⟨x,y,u1,u2,u3⟩:=CF.bs i hi
   grind [Pz]
  ·intro j T;rw[m,R] at T;rcases rU j σD.length with E | E
   ·refine k5 j E λhm=>?_;rw[iX] at hm;obtain ⟨q,hq,e⟩:=hm;simp only[rCT,bG] at hr
    grind [YK]
   ·rw[K.len] at E;obtain ⟨k,rfl⟩:=yBL E;have:o.nb.length<=k:=by
     rcases rU k o.nb.length with S | S
     ·exact absurd (t k) (T (Y0.length+k) (by omega))
     omega
    rw[xAb (by grind),xAb (by grind [RH.len])]
def osp_ok{P:Program}{B:dj}(o:dj.ok P B){g:FuncId}{s:dC}(p:aW P g=true)
  (h:∀x,(match ma s.AQ [] x with | some (vs,Y)=>B s.Qu g vs Y | none=>none)=s.f x):dg P g s:=by
 refine ⟨p,λx y vs Y ct z q r d k hs t=>?_⟩;rw[<-h x,k] at d;dsimp only at d;obtain ⟨e⟩:=lW k;have u:RH ([]:TH) []:=⟨rfl,λb blk h=>by simp at h,λb w K h=>by simp at h⟩;obtain ⟨A,L,N,O,R,S⟩:=e.all u;have m:=Ju e.h3;have E:f_ vs (vs.map eD):=by
  have:∀(vs:List TV),(∀v∈vs,nT v)->f_ vs (vs.map eD):=by
   intro vs;induction vs with
   |nil=>intro _;exact .nil
   |cons v vs ih=>intro h;exact .cons (RT.eD (h v (qY ..))) (ih λx G=>h x (o_ _ G))
  exact this vs λv j=>(m v j).nt
 exact (o s.Qu g vs Y y ct z q r _ _ d hs t A E λv j=>(m v j).gv e.sr).2
def uw(P:Program)(O:OH):Prop:=∀p∈O,dg P p.1 p.2
theorem uw.nil{P:Program}:uw P []:=λp h=>by simp at h
def uw.cons{P:Program}{O:OH}{g:FuncId}{s:dC}(h:dg P g s)(r:uw P O):uw P ((g,s)::O):=λp j=>by
 rcases gy.1 j with rfl | j
 ·exact h
 ·exact r p j
def TP(O:OH)(K:dj):dj:=λd g e Y=>match d with
 |[]=>none
 |ct :: d => match ct.H with
  |[(_,k)]=>match Nat.beq k 999999 with | true=>K (ct::d) g e Y | false=>inlS O (ct::d) g e Y
  |_=>none
def JK{P:Program}{O:OH}{K:dj}(r:uw P O)(s:dj.ok P K):dj.ok P (TP O K):=by
 intro t k m Y y ct x o p σD ds h d e q g j;unfold TP at h;split at h
 ·simp at h
 split at h
 ·split at h
  ·exact s _ k m Y y ct x o p σD ds h d e q g j
  ·exact inlS_ok r _ k m Y y ct x o p σD ds h d e q g j
 simp_all
def inlG(P:Program)(S:sq)(N:Nat)(O:OH)(K:dj):dj:=(Ph P S N (TP O K) (resO O) 30).1
def inlG_ok{P:Program}{S:sq}{N:Nat}{O:OH}{K:dj}(dG:P.follows .mixedOrders=true)(d:fF P S)(e:uw P O)(g:dj.ok P K):dj.ok P (inlG P S N O K):=(OP dG d (JK e g) 30).1
def tG(P:Program)(g:Nat)(S:sq)(O:OH)(K:dj)(H:List (Nat×Nat))(J:List (Nat×JH))(C:List (Nat×List CT))(d out:List dt)(N:Nat)(a:tD d):Option (kY out):=
 match P.funcs[g]? with
 |some f => match il P f true with
  |some e => match aW P g && Nat.ble d.length e.ntmps with
   |true=>tF P S (TP O K) (resO O) H J C 30 e d out N a
   |false=>none
  |none=>none
 |none=>none
def tG_ok{P:Program}{g:Nat}{S:sq}{O:OH}{K:dj}{H:List (Nat×Nat)}{J:List (Nat×JH)}{C:List (Nat×List CT)}{d out:List dt}{N:Nat}{f:tD d->Option (kY out)}(dG:P.follows .mixedOrders=true)(j:fF P S)(m:uw P O)(o:dj.ok P K)(h:∀a,tG P g S O K H J C d out N a=f a):bJ P g ⟨d,out,f⟩:=by
 intro a r e;dsimp only at a r e ⊢;rw[<-h a] at e;unfold tG at e;split at e
 ·rename_i fn p;split at e
  ·rename_i s q;split at e
   ·rename_i k;simp only[bG] at k;exact tF_ok dG j p k.1 q ⟨(OP (B:=TP O K) dG j (JK m o) 30).1.inl _ _ _ _ _ _ _ _,(OP (B:=TP O K) dG j (JK m o) 30).2.two _ _ _ _ _ _ _ _⟩ k.2 e
   simp_all
  simp_all
 simp_all
def oG(P:Program)(g:Nat)(S:sq)(O:OH)(K:dj)(N:Nat)(s:dC)(x:dF s.AQ.items):Option (qq s.Qu):=
 match ma s.AQ [] x with
 |some (d,Y)=>inlG P S N O K s.Qu g d Y
 |none=>none
def oG_ok{P:Program}{g:Nat}{S:sq}{O:OH}{K:dj}{N:Nat}{s:dC}(dG:P.follows .mixedOrders=true)(d:fF P S)(e:uw P O)(j:dj.ok P K)(k:aW P g=true)(h:∀x,oG P g S O K N s x=s.f x):dg P g s:=osp_ok (inlG_ok dG d e j) k h
abbrev nilD:D:=.c (.lit (.slice none 0 0))
def Qa(es sz:Nat)(z:List D):kP:=⟨1,8,[(2,none)],.seq (.Bb [⟨some 2,.AO (.k nilD),none⟩])
 (.seq (.seq (.Bb [⟨some 3,.AO (.t 0),none⟩,⟨some 4,.iT 3 false (.t 3),none⟩])
  (.cond (.t 4) (.seq (.Bb [⟨some 2,.AO (.k nilD),none⟩]) .ret) .skip))
 (.seq (.Bb [⟨some 5,.jh es 0 z [],none⟩,⟨some 6,.AO (.t 0),none⟩,⟨some 7,.append es sz (.t 5) (.t 6),none⟩,⟨some 2,.AO (.t 7),none⟩]) .ret)),true⟩
def cloneF(i:Nat)(a:tD [dt.c (.sl i)]):Option (kY [dt.c (.sl i)]):=cB ([]:List (TT i)) a.1
def dY{P:Program}:lT P (λ_ _ _ _=>none):=λt g ds Y r d wr h=>by simp at h
def vu{P:Program}{g i sz:Nat}{z:List D}{fn:Func}(dG:P.follows .mixedOrders=true)(k:P.funcs[g]? = some fn)(o:aW P g=true)(p:il P fn true=some (Qa (aB i) sz z))(hs:Nat.ble sz 1000=true):bJ P g ⟨[.c (.sl i)],[.c (.sl i)],cloneF i⟩:=by
 intro a r j;obtain ⟨l,u⟩:=a;dsimp only at j;show Pure P g [.c (.cJ false (l.map (enc i)))] (.c (.cJ false (r.map (enc i))));obtain ⟨q,rfl⟩:=uV (l:=([]:List (TT i))) (m:=l) j;refine Wu (λe d=>?_) ?_ ?_
 ·rw[iX] at d;obtain ⟨x,_,rfl⟩:=d;intro h;have:=uU i x;rw[h] at this;have s:=σ.ps i
  simp_all
 ·refine uR k o p (CH rfl) ?_;refine Sem.kj (Sem.qU dG dY (cj.op (Ay rfl) iq rfl (cj.nil (.inl ?_))));refine Sem.kj ?_;refine Sem.kj (Sem.qU dG dY (cj.op (Ay rfl) iq rfl (cj.op (fw (b:=false) rfl rfl) iq rfl (cj.nil (.inl ?_)))));refine Sem.cond (b:=false) rfl (λh=>by simp at h) λ_=>Sem.skip dG (.inl ?_);refine Sem.kj (Sem.qU dG dY (cj.op (jC (f:=enc i) (l:=([]:List (TT i))) rfl rfl rfl (uU i) rfl rfl rfl) iq rfl (cj.op (Ay rfl) iq rfl
   (cj.op (wi (f:=enc i) (l:=([]:List (TT i))) (m:=r) (r:=r) (uU i) rfl rfl rfl rfl (Dp (uU i)) j hs rfl rfl) iq rfl (cj.op (Ay rfl) iq rfl (cj.nil (.inl ?_)))))))
  refine Sem.ret dG ⟨.inr rfl,_,_,rfl,frz_own (l:=r) (uU i) (σ.ps i) rfl rfl,Ej.Pg rfl⟩
 ·intro d;rw[d];refine uR k o p (CH rfl) ?_;refine Sem.kj (Sem.qU dG dY (cj.op (Ay rfl) iq rfl (cj.nil (.inl ?_))));refine Sem.kj ?_;refine Sem.kj (Sem.qU dG dY (cj.op (Ay rfl) iq rfl (cj.op (fw (b:=true) rfl rfl) iq rfl (cj.nil (.inl ?_)))));refine Sem.cond (b:=true) rfl (λ_=>?_) λh=>by simp at h
  refine Sem.kj (Sem.qU dG dY (cj.op (Ay rfl) iq rfl (cj.nil (.inl ?_))));refine Sem.ret dG ⟨.inr rfl,_,_,rfl,rfl,Ej.Pg rfl⟩
theorem ok_nil{P:Program}{g:FuncId}{es:List (List C)}{r:D}{Y Y':ar}(q:∀e∈es,e≠[])(G:Ok P g [.c (.cJ true es)] Y r Y')(K:es=[]->Ok P g [.c (.lit (.slice none 0 0))] Y r Y'):Ok P g [.c (.cJ false es)] Y r Y':=by
 intro M Fz w h R hs L;have s:h[0]? = some (h[0]'(by simp_all)):=qB _;have j:=L 0 _ _ rfl s;generalize S:h[0]'(by simp_all)=x at j s;have only:∀d,V Y M Fz w d x->∀(i:Nat) t v,[d][i]? = some t->h[i]? = some v->V Y M Fz w t v:=by grind
 cases j with
 |c u=>
  generalize A:C.cJ false es=y at u;cases u with
  |cJ aB a cap N E c m k o p=>
   simp only[C.cJ.injEq] at A;obtain ⟨rfl,rfl⟩:=A;cases a with
   |some a=>exact G M Fz w h R hs (only _ (.c (.cJ aB (some a) cap (λ_=>rfl) E c m k o p)))
   |none=>
    have O:es=[]:=by simp_all
    subst O;have:=E rfl;subst this;exact K rfl M Fz w h R hs (only _ (.c (.lit _)))
  |_=>grind
theorem Um{P:Program}{g:FuncId}{ds:List D}(h:Ok P g ds [] nilD [])(es:Nat):Ok P g ds [] (.sl 0 0 0 es 0) [.cells []]:=by
 intro M Fz w q R hs r;refine (h M Fz w q R hs r).mono λe A s=>?_;obtain ⟨v,k,m,t,j,p,d⟩:=s;have u:∀b,k b=none:=λb=>by
  cases hb:k b with
  |none=>rfl
  |some c=>obtain ⟨_,x,o,E,_⟩:=j.blk b c hb;grind
 refine ⟨v,k,m,t,⟨λb c hb=>(by simp_all),j.inj,j.fz,j.gl⟩,?_,⟨d.size,d.frame,d.lP,d.fz,d.nF,d.qe,λb x hb=>by grind,d.out⟩⟩;cases p with
 |c y=>
  cases y with
  |lit=>exact .sl none 0 0 (λh=>absurd rfl h) (.cells []) rfl (cP _) λ_=>.inl ⟨rfl,rfl,rfl,rfl,rfl,rfl⟩
def rn_id{i:Nat}{l:List (TT i)}:SJ 0 [OB (enc i) l] [OB (enc i) l] id (λ_=>False):={
 le:=Qf _
 id:=λi h=>rfl
 inj:=λi j _ _ h=>h
 fr:=λ_ _ h=>h
 row:=λ_ h=>h.elim
 sz:=λj e=>by simp_all
 ob:=λj e=>by
  have:j=0:=by simp_all
  subst this;have N:Rn 0 [OB (enc i) l] [OB (enc i) l] id (λ_=>False):=⟨Qf _,λi h=>rfl,λi j _ _ h=>h,λ_ _ h=>h,λ_ h=>h.elim,λj e=>by simp_all⟩
  refine ⟨_,_,rfl,rfl,_,rfl,aM.Hp rfl λk a b d hb=>?_⟩;rw[d] at hb;simp only[au] at hb;subst hb;rw[lS,cC] at d;obtain ⟨c,_,rfl⟩:=d;exact dv.data N rfl }
def jg{P:Program}{g i sz:Nat}{z:List D}{fn:Func}(dG:P.follows .mixedOrders=true)(s:P.funcs[g]? = some fn)(v:aW P g=true)(t:il P fn true=some (Qa (aB i) sz z))(hs:Nat.ble sz 1000=true) :
  dg P g ⟨.mk [.v (.c (.sl i))] [] [] [] [] [],[.mk [.p (.hd 0)] [] [.row i] [] [] []],λx=>cB ([]:List (TT i)) x⟩:=by
 refine ⟨v,λx y A Y ct z E G q r d K=>?_⟩;dsimp only at q r d;change dF [It.cc (.sl i)] at x;change dF [It.ls i] at y;have o:some ([TV.c (.sl i x)],([]:TH))=some (A,Y):=by rw[<-r];have e:dS (CT.items (.mk [.v (.c (.sl i))] [] [] [] [] [])) x=[⟨.cc (.sl i),x⟩]:=rfl;unfold ma;rw[e];simp only[CT.pl,CT.nb,CT.out,cd,dx,kz,zh,FC,dU,dP,CD];rfl
 simp only[au,aU] at o;obtain ⟨rfl,rfl⟩:=o;simp only[sS,au,yBA] at d;obtain ⟨rfl,L⟩:=d;have p:some ([TV.c (.own i 0 0 (List.length (α:=TT i) y))],[TB.row i y 0 0])=some (E,G):=by rw[<-K];have e:dS (CT.items (.mk [.p (.hd 0)] [] [.row i] [] [] [])) y=[⟨.ls i,y⟩]:=rfl;unfold ma;rw[e];simp only[CT.pl,CT.nb,CT.out,cd,dx,kz,zh,tQ,FC,dU,dP,CD,zO,xF]
 simp only[au,aU] at p;obtain ⟨rfl,rfl⟩:=p;obtain ⟨u,rfl⟩:=uV (l:=([]:List (TT i))) (m:=x) q;show Ok P g [.c (.cJ false (List.map (enc i) y))] [] (OS (aB i) 0 (List.length (α:=TT i) y)) [OB (enc i) y];refine ok_nil (λe k=>?_) ?_ ?_
 ·rw[iX] at k;obtain ⟨x,_,rfl⟩:=k;intro h;have:=uU i x;rw[h] at this;have r:=σ.ps i
  simp_all
 ·refine pD s t (CH rfl) ?_;refine Sem.kj (Sem.qU dG dY (cj.op (Ay rfl) iq rfl (cj.nil (.inl ?_))));refine Sem.kj ?_;refine Sem.kj (Sem.qU dG dY (cj.op (Ay rfl) iq rfl (cj.op (fw (b:=false) rfl rfl) iq rfl (cj.nil (.inl ?_)))));refine Sem.cond (b:=false) rfl (λh=>by simp at h) λ_=>Sem.skip dG (.inl ?_);refine Sem.kj (Sem.qU dG dY (cj.op (jC (f:=enc i) (l:=([]:List (TT i))) rfl rfl rfl (uU i) rfl rfl rfl) iq rfl (cj.op (Ay rfl) iq rfl
   (cj.op (wi (f:=enc i) (l:=([]:List (TT i))) (uU i) rfl rfl rfl rfl (Dp (uU i)) q hs rfl rfl) iq rfl (cj.op (Ay rfl) iq rfl (cj.nil (.inl ?_)))))))
  refine Sem.ret dG ⟨.inr rfl,_,id,λ_=>False,rfl,rn_id,λ_ h=>h.elim,?_⟩;exact dv.sl rn_id.toRn (i:=0) (Nat.lt_succ_self 0)
 ·intro k;have k:y=([]:List (TT i)):=List.map_eq_nil_iff.1 k;subst k;have e:OS (aB i) 0 (List.length (α:=TT i) [])=.sl 0 0 0 (aB i) 0:=by simp[OS]
  rw[e];refine Um ?_ (aB i);refine pD s t (CH rfl) ?_;refine Sem.kj (Sem.qU dG dY (cj.op (Ay rfl) iq rfl (cj.nil (.inl ?_))));refine Sem.kj ?_;refine Sem.kj (Sem.qU dG dY (cj.op (Ay rfl) iq rfl (cj.op (fw (b:=true) rfl rfl) iq rfl (cj.nil (.inl ?_)))));refine Sem.cond (b:=true) rfl (λ_=>?_) λh=>by simp at h
  refine Sem.kj (Sem.qU dG dY (cj.op (Ay rfl) iq rfl (cj.nil (.inl ?_))));refine Sem.ret dG ⟨.inr rfl,_,id,λ_=>False,rfl,⟨⟨cP _,λi h=>rfl,λi j _ _ h=>h,λ_ _ h=>h,λ_ h=>h.elim,λi h=>by simp at h⟩,λi h=>by simp at h⟩,λ_ h=>h.elim,?_⟩;exact dv.data ⟨cP _,λi h=>rfl,λi j _ _ h=>h,λ_ _ h=>h,λ_ h=>h.elim,λi h=>by simp at h⟩ rfl
def rn_rows{Y:ar}(h:∀ob∈Y,∃(i:Nat)(l:List (TT i)),ob=OB (enc i) l){m:Nat}(hm:m<=Y.length):SJ m Y Y id (λ_=>False):=by have N:Rn m Y Y id (λ_=>False):=⟨hm,λi _=>rfl,λi j _ _ e=>e,λ_ _ e=>e,λ_ e=>e.elim,λi hi=>⟨_,_,dW hi,dW hi,rfl⟩⟩;refine ⟨N,λi hi=>⟨_,_,dW hi,dW hi,?_⟩⟩;obtain ⟨k,l,e⟩:=h _ (bA hi);rw[e];refine ⟨_,rfl,aM.Hp rfl λk a b d hb=>?_⟩;rw[d] at hb;simp only[au] at hb;subst hb;rw[lS,cC] at d;obtain ⟨c,_,rfl⟩:=d;exact dv.data N rfl
theorem KZ{P:Program}{g ii sz:Nat}{z:List D}{fn:Func}(dG:P.follows .mixedOrders=true)(G:P.funcs[g]? = some fn)(X:aW P g=true)(K:il P fn true=some (Qa (aB ii) sz z))(hs:Nat.ble sz 1000=true) :
  dg P g ⟨.mk [.p (.hd 0)] [] [.row ii] [] [] [],[.mk [.p (.hd 1)] [] [.row ii] [] [] []],λx=>cB ([]:List (TT ii)) x⟩:=by
 refine ⟨X,λx y p Y ct z Z aC u L k hq=>?_⟩;dsimp only at u L k;change dF [It.ls ii] at x;change dF [It.ls ii] at y;have s:some ([TV.c (.own ii 0 0 (List.length (α:=TT ii) x))],[TB.row ii x 0 0])=some (p,Y):=by rw[<-L];have e:dS (CT.items (.mk [.p (.hd 0)] [] [.row ii] [] [] [])) x=[⟨.ls ii,x⟩]:=rfl;unfold ma;rw[e];simp only[CT.pl,CT.nb,CT.out,cd,dx,kz,zh,tQ,FC,dU,dP,CD,zO,xF]
 simp only[au,aU] at s;obtain ⟨rfl,rfl⟩:=s;simp only[sS,au,yBA] at k;obtain ⟨rfl,hz⟩:=k;have t:some ([TV.c (.own ii 1 0 (List.length (α:=TT ii) y))],[TB.row ii x 0 0,TB.row ii y 0 0])=some (Z,aC):=by rw[<-hq];have e:dS (CT.items (.mk [.p (.hd 1)] [] [.row ii] [] [] [])) y=[⟨.ls ii,y⟩]:=rfl;unfold ma;rw[e];simp only[CT.pl,CT.nb,CT.out,cd,dx,kz,zh,tQ,FC,dU,dP,JC,zO,xF,yBu]
 simp only[au,aU] at t;obtain ⟨rfl,rfl⟩:=t;obtain ⟨N,rfl⟩:=uV (l:=([]:List (TT ii))) (m:=x) u;show Ok P g [OS (aB ii) 0 (List.length (α:=TT ii) y)] [OB (enc ii) y] (OS (aB ii) 1 (List.length (α:=TT ii) y)) [OB (enc ii) y,OB (enc ii) y];have rn:SJ 1 [OB (enc ii) y,OB (enc ii) y] [OB (enc ii) y,OB (enc ii) y] id (λ_=>False):=rn_rows (λob h=>by grind) (by simp)
 have fin:dv [OB (enc ii) y,OB (enc ii) y] [OB (enc ii) y,OB (enc ii) y] id (λ_=>False) (OS (aB ii) 1 (List.length (α:=TT ii) y)) (OS (aB ii) 1 (List.length (α:=TT ii) y)):=dv.sl rn.toRn (i:=1) (Nat.lt_succ_self 1);have O:∀d,(isNil 3 d=some false)->Src [OB (enc ii) y,OB (enc ii) ([]:List (TT ii))] (enc ii) (aB ii) d y->Ok P g [d] [OB (enc ii) y] (OS (aB ii) 1 (List.length (α:=TT ii) y)) [OB (enc ii) y,OB (enc ii) y]:=λd hd A=>by
  refine pD G K (CH rfl) ?_;refine Sem.kj (Sem.qU dG dY (cj.op (Ay rfl) iq rfl (cj.nil (.inl ?_))));refine Sem.kj ?_;refine Sem.kj (Sem.qU dG dY (cj.op (Ay rfl) iq rfl (cj.op (fw (b:=false) rfl hd) iq rfl (cj.nil (.inl ?_)))));refine Sem.cond (b:=false) rfl (λh=>by simp at h) λ_=>Sem.skip dG (.inl ?_);refine Sem.kj (Sem.qU dG dY (cj.op (jC (f:=enc ii) (l:=([]:List (TT ii))) rfl rfl rfl (uU ii) rfl rfl rfl) iq rfl (cj.op (Ay rfl) iq rfl
   (cj.op (wi (f:=enc ii) (l:=([]:List (TT ii))) (m:=y) (r:=y) (uU ii) rfl rfl rfl rfl A u hs rfl rfl) iq rfl (cj.op (Ay rfl) iq rfl (cj.nil (.inl ?_)))))))
  exact Sem.ret dG ⟨.inr rfl,_,id,λ_=>False,rfl,rn,λ_ h=>h.elim,fin⟩
 cases y with
 |cons a l=>exact O _ rfl (Sn (uU ii) rfl rfl)
 |nil=>
  intro M Fz w p R hs hv;have S:p[0]? = some (p[0]'(by simp_all)):=qB _;have q:=hv 0 _ _ rfl S;generalize hx:p[0]'(by simp_all)=x at q S;have only:∀d,V [OB (enc ii) ([]:List (TT ii))] M Fz w d x->∀(i:Nat) U v,[d][i]? = some U->p[i]? = some v->V [OB (enc ii) ([]:List (TT ii))] M Fz w U v:=by grind
  have e0:OS (aB ii) 0 (List.length (α:=TT ii) [])=.sl 0 0 0 (aB ii) 0:=by simp[OS]
  rw[e0] at q;cases q with
  |sl a n cap aa ob h ab E=>
   simp only[xF,au] at h;subst h;rcases E rfl with ⟨rfl,rfl,rfl,_⟩ | ⟨c,o,ad,T,h1,rfl,rfl,h2,h3,h4,h5,h6⟩
   ·refine (show Ok P g [nilD] [OB (enc ii) ([]:List (TT ii))] (OS (aB ii) 1 0) [OB (enc ii) ([]:List (TT ii)),OB (enc ii) ([]:List (TT ii))] from ?_) M Fz w p R hs (only _ (.c (.lit _)));refine pD G K (CH rfl) ?_;refine Sem.kj (Sem.qU dG dY (cj.op (Ay rfl) iq rfl (cj.nil (.inl ?_))));refine Sem.kj ?_;refine Sem.kj (Sem.qU dG dY (cj.op (Ay rfl) iq rfl (cj.op (fw (b:=true) rfl rfl) iq rfl (cj.nil (.inl ?_)))));refine Sem.cond (b:=true) rfl (λ_=>?_) λh=>by simp at h
    refine Sem.kj (Sem.qU dG dY (cj.op (Ay rfl) iq rfl (cj.nil (.inl ?_))));refine Sem.own 2 (aB ii) rfl rfl rfl ?_;refine Sem.ret dG ⟨.inr rfl,_,id,λ_=>False,rfl,rn,λ_ h=>h.elim,?_⟩;have:=fin;rw[show OS (aB ii) 1 (List.length (α:=TT ii) [])=.sl 1 0 0 (aB ii) 0 by simp[OS]] at this;rw[show OS (aB ii) 1 0=.sl 1 0 0 (aB ii) 0 by simp[OS]];exact this
   ·exact O (.c (.cJ true [])) rfl (Dp (nn:=true) (m:=([]:List (TT ii))) (uU ii)) M Fz w p R hs (only _ (.c (.cJ (aB ii) _ cap (λ_=>rfl) (λh=>by simp at h) (λ_ _=>undef) (λe h=>by simp at h) (Qf _) (λi j e d h=>by simp at h) (λi j e d h=>by simp at h))))
theorem clo_ok{P:Program}{g:Nat}{out:List dt}(f:tD []->Option (kY out))(dG:P.follows .mixedOrders=true)(h:(evF P (Tm P []) (λ_ _ _=>none) 1000 1 g [] []).map (λp=>(nrmY p.1,p.2.1))=(f ()).map λv=>(sI out v,[])):bJ P g ⟨[],out,f⟩:=by
 intro a r o;have d:f ()=some r:=o;rw[d] at h;cases m:evF P (Tm P []) (λ_ _ _=>none) 1000 1 g [] [] with
 |none=>simp_all
 |some p=>obtain ⟨q,j,wr⟩:=p;rw[m] at h;simp only[Cs,au,aU] at h;obtain ⟨s,rfl⟩:=h;have O:=evF_ok dG (ZG P []) (prim:=λ_ _ _=>none) (λg ds Y r j wr h=>by simp at h) 1000 1 g [] [] q [] wr m;refine ⟨O.1,λM Fz w t R hs u=>?_⟩;refine (O.2.1 M Fz w t R hs u).mono λe L x=>?_;obtain ⟨v,y,k,A,E,G,K⟩:=x;exact ⟨v,y,k,A,E,Ej.of_nrmY s _ _ _ _ _ G,K⟩
end
end Go.Abs
end
section
namespace Go.Abs
noncomputable section
open Go.RowKit
variable[Gl][σ:Ty]
structure pJ (P:Program) (gs gk:FuncId) (kt:TypeId):Prop where
 en:aW P gs=true
 ku:P.underlying kt=some (.int .i64)
 run:∀(Bm b nn:Nat)(D0:DataW Unit)(R:Value->Option (DataW Unit×List MemPlace))(w:World),Bm<w.heap.size->w.cell? ⟨Bm,0,none⟩=some (.map (some b))->w.ownsMap P kt R b nn D0->Maps.size D0<=maxLen->Maps.size D0 * 8<=140737488355328 ->
  Calls P gs #[.func (.func gk) #[] #[.pointer (some ⟨Bm,0,none⟩)]] w λe w'=>∃(v:Value)(ss:List Int)(et:TypeId),e=.returned v/\ss.Perm (intKeys D0)/\w'.ownsRow w.heap.size et 1 v ss.length ((ss.mergeSort (λx y=>decide (x<=y))).map encZ)/\(v=.slice none 0 0↔ss=[])/\Below w.heap.size w w'
def zZ{α d:Type}(c:Int->d)(l:List (Int×α)):Option (List d):=
 if l.length<=1000000/\(l.map Prod.fst).Nodup/\(∀p∈l,(Lit.int .i64 p.1).wf=true) then some (((l.map Prod.fst).mergeSort (λx y=>decide (x<=y))).map c) else none
def Ww(ct:CT)(ii:Nat):Bool:=match ct.out,ct.pl,ct.nb with
 |[.v (.c (.sl j))],[],[]=>Nat.beq j ii
 |_,_,_=>false
def JT(d e:FuncId)(ii:Nat)(c:Int->TT ii):dj:=λj g k Y=>
 match j with
 |[ct] => match Nat.beq g d, k with
  |true, [.c (.d (.fn (.func f) [] [.ptr b 0 1]))] => match Nat.beq f e, Y[b]? with
   |true, some (.cells _ [(_, .d (.mp m))]) => match Y[m]? with
    |some (.mp _ _ l _) => match Ww ct ii, decEq [It.cc (.sl ii)] ct.items with
     |true,.isTrue h=>cast (Ig (λi=>Option (dF i)) h) (zZ c l)
     |_,_=>none
    |_=>none
   |_,_=>none
  |_,_=>none
 |_=>none
def OV{α d:Type}(p:Option α=Option d)(e:α=d){o:Option α}{y:d}(h:cast p o=some y):∃g,o=some g/\HEq g y:=by grind
theorem mbE_get{α:Type}{g:α->D}:∀(l:List (Int×α))(i j:Nat),(FJ g i l)[j]? = (l[j]?).map λp=>(.int .i64 p.1,g p.2,i+j):=by
 intro l;induction l with
 |nil=>intro i j;rfl
 |cons p l ih=>grind [FJ]
theorem mbE_len{α:Type}{g:α->D}:∀(l:List (Int×α))(i:Nat),(FJ g i l).length=l.length:=by
 intro l;induction l with
 |nil=>intro i;rfl
 |cons p l ih=>grind [FJ]
theorem Iv{P:Program}{gs gk:FuncId}{u:TypeId}(K:pJ P gs gk u){ii:Nat}{c:Int->TT ii}(hc:∀k,enc ii (c k)=[.lit (.int .i64 k)]){Y:ar}{b m:Nat}{α:Type}{g:α->D}{l:List (Int×α)}{r:List (TT ii)}
  (hb:Y[b]? = some (.cells [.mp m])) (hm:Y[m]? = some (MB g l)) (hr:zZ c l=some r):Ok P gs [.fn (.func gk) [] [.ptr b 0 1]] Y (.c (.cJ false (r.map (enc ii)))) Y:=by
 unfold zZ at hr;split at hr
 rotate_left
 ·grind
 rename_i Z;obtain ⟨S,bv,bw⟩:=Z;simp only[au] at hr;intro M Fz w vs R hs a6;have U:vs=#[vs[0]'(by simp_all)]:=by grind
 have hv:=a6 0 _ _ rfl (qB (by grind));generalize vs[0]'(by grind)=v0 at hv U;subst U;cases hv with
 |fn v1 ws h1 h2 _ hw=>
  have e1:v1=#[]:=by simp_all
  subst e1;have e2:ws=#[ws[0]'(by simp_all)]:=by grind
  have hp:=hw 0 _ _ rfl (qB (by grind));generalize ws[0]'(by grind)=p at hp e2;subst e2;have X:nW Y b 1=some [.mp m]:=Qk hb rfl;obtain ⟨cb,hM,rfl⟩:=hp.vM X;obtain ⟨a7,_⟩:=Qv X;obtain ⟨t,T,hh,hl,a8⟩:=R.row hM a7;have ea:t[0]? = some (t[0]'(by omega)):=qB _;have a9:=(a8 0 _ _ rfl ea).1;obtain ⟨cm,b0,bb⟩:=a9.Jl hm;obtain ⟨s,ck,bc,⟨av,hB⟩,bk⟩:=R.SF hm bb;rw[mbE_len] at av;have aa:w.cell? ⟨cb,0,none⟩=some (.map (some cm)):=by grind [Go.cell_of_row]
  have bd:∀(i:Nat) e,s[i]? = some e->∃p,l[i]? = some p/\e.key=.int .i64 p.1/\True:=λi e A=>by
   have hi:i<l.length:=by grind
   have h3:(FJ g 0 l)[i]? = some (.int .i64 l[i].1,g l[i].2,0+i):=by grind [mbE_get]
   grind
  let RR:Value->Option (DataW Unit×List MemPlace):=λ_=>some (.nil,[])
  have ab:s.toList.length=l.length:=by omega
  have ad:s.toList.map (·.key)=(l.map Prod.fst).map (Value.int .i64):=by
   apply VW
   grind
  have b1:∀e∈s.toList,∃p∈l,e.key=.int .i64 p.1/\Go.WideElems.rd P u RR e=some (.int .i64 p.1,.nil):=λe A=>by
   obtain ⟨i,hi⟩:=yBH A
   grind [Go.WideElems.rd,Go.Maps.keyOf_int_mk,pJ.ku]
  have ax:Go.WideElems.Fit P u RR s ck:=by
   refine ⟨by rw[av];exact jk S (by decide),⟨λe A=>?_,?_,?_⟩,λe A=>?_⟩
   ·exact hB.2 e A
   ·exact hB.1
   ·grind
   grind
  have E:((s.toList.map (Go.WideElems.rg P u RR)).foldr DataW.insert []).Perm (s.toList.map (Go.WideElems.rg P u RR)):=Go.WideShapes.sorted_perm _;have a0:w.ownsMap P u RR cm l.length (.map ((s.toList.map (Go.WideElems.rg P u RR)).foldr DataW.insert [])):=⟨s,ck,bc,ax,by omega,rfl⟩;have af:(intKeys (.map ((s.toList.map (Go.WideElems.rg P u RR)).foldr DataW.insert []):DataW Unit)).Perm (l.map Prod.fst):=by
   refine (E.map _).trans ?_;have:(s.toList.map (Go.WideElems.rg P u RR)).map (λp=>intOf p.1)=l.map Prod.fst:=by
    rw[UX];have h5:(l.map Prod.fst).map (Value.int .i64)=s.toList.map (·.key):=ad.symm;apply VW;intro i;rw[lS,lS,TJ];cases A:s[i]? with
    |none=>simp_all
    |some e=>obtain ⟨p,h3,h4,_⟩:=bd i e A;have hp:=Av h3;rw[h3];simp only[Cs,Function.comp,au];rw[Go.WideElems.rg_of (show Go.WideElems.rd P u RR e=some (.int .i64 p.1,.nil) by grind [Go.WideElems.rd,Go.Maps.keyOf_int_mk,pJ.ku])];rfl
   rw[this]
  have a1:Maps.size (.map ((s.toList.map (Go.WideElems.rg P u RR)).foldr DataW.insert []):DataW Unit)=l.length:=by rw[Maps.size_eq,E.length_eq,vR,ab]
  refine (K.run cb cm l.length _ RR w (R.lt hM).2 aa a0 (by rw[a1];exact jk S (by decide)) (by omega)).mono λe N A=>?_;obtain ⟨v,G,et,rfl,hp,ak,bl,O⟩:=A;have an:G.mergeSort (λx y=>decide (x<=y))=(l.map Prod.fst).mergeSort (λx y=>decide (x<=y)):=mergeSort_of_perm_i (hp.trans af);have be:r.map (enc ii)=((l.map Prod.fst).mergeSort (λx y=>decide (x<=y))).map λk=>[C.lit (.int .i64 k)]:=by grind [List.map_congr_left]
  rw[be,<-an];have PD:(G.mergeSort (λx y=>decide (x<=y))).length=G.length:=List.length_mergeSort G;obtain ⟨_,ak⟩:=ak;rcases ak with ⟨rfl,h0⟩ | ⟨gb,cap,a2,rfl,b2,a5,bt,_,bu,b3⟩
  ·have:G=[]:=ZI h0;subst this;refine ⟨_,M,Fz,rfl,R.below O,.c ?_,bF.below R O⟩;rw[show ([]:List Int).mergeSort (λx y=>decide (x<=y))=[] from ZI (by omega)];exact .cJ 1 none 0 (λh=>by simp at h) (λ_=>rfl) (λ_ _=>undef) (λe A=>by grind) (cP _) (λi j e d h=>by simp at h) (λi j e d h=>by simp at h)
  ·have bh:∀(i:Nat) k,(G.mergeSort (λx y=>decide (x<=y)))[i]? = some k->N.cell? ⟨gb,0+i * 1+0,none⟩=some (.int .i64 k):=λi k hk=>by
    rw[cell_of_row N gb _ a2 et (0,0) a5];have hi:i<G.length:=by grind
    have h6:(a2.toList.take (G.length * 1))[i]? = some (encZ k):=by simp_all
    grind
   let L:Nat->Prop:=λx=>Fz x\/x=gb
   have RB:=R.below O;have EB:=bF.below R O;have b4:gb<N.heap.size:=(CK.1 a5).1;have mono:∀x:Nat,Fz x->L x/\N.heap[x]? = N.heap[x]?:=λx h=>⟨.inl h,rfl⟩;have mv:∀{d v},V Y M Fz N d v->V Y M L N d v:=λh=>h.sub (λb ob hb=>⟨ob,hb,rfl⟩) (λ_ _ h=>h) mono (λc t T fr h=>⟨t,h,rfl⟩);have R2:Rel Y M L N:=by
    refine ⟨λb' x h=>?_,RB.inj,λx h=>?_,Gl.mono mono RB.gl⟩
    ·obtain ⟨h1,ob,o,h2,h3,h4⟩:=RB.blk b' x h;have hx:x<w.heap.size:=(R.lt h).2;refine ⟨λhf=>?_,ob,o,h2,h3,?_⟩
     ·grind
     ·cases ob with
      |cells cs=>obtain ⟨t,T,ho,hl,hv⟩:=h4;exact ⟨t,T,ho,hl,λi d v x y=>⟨mv (hv i d v x y).1,(hv i d v x y).2⟩⟩
      |map es bi=>obtain ⟨t,ho,hl,hv⟩:=h4;exact ⟨t,ho,hl,λi k d n e x y=>let ⟨p,q,r⟩:=hv i k d n e x y;⟨p,q,mv r⟩⟩
      |gone n=>exact h4.elim
    ·rcases h with h | rfl
     ·exact RB.fz x h
     omega
   have E2:bF Y M Fz w Y M L N:=⟨EB.size,EB.frame,EB.lP,λx h=>⟨.inl h,(EB.fz x h).2⟩,λx h=>by grind,EB.qe,EB.keep,EB.out⟩
   refine ⟨_,M,L,rfl,R2,.c ?_,E2⟩;have e7:G.length=((G.mergeSort (λx y=>decide (x<=y))).map λk=>[C.lit (.int .i64 k)]).length:=by simp_all
   rw[e7];refine .cJ 1 (some ⟨gb,0,none⟩) cap (λh=>by simp at h) (λh=>by simp at h) (λi _=>.int .i64 ((G.mergeSort (λx y=>decide (x<=y)))[i]?.getD 0)) (λe A=>?_) (by omega) (λi j e d hi hj=>?_) (λi j e d hi hj=>?_)
   ·grind
   ·rw[lS,cC] at hi;obtain ⟨k,hk,rfl⟩:=hi;cases j with
    |succ j=>grind
    |zero=>
     refine ⟨gb,0,rfl,.inr rfl,?_,rfl⟩
     grind
   ·rw[lS,cC] at hi;obtain ⟨k,hk,rfl⟩:=hi;cases j with
    |succ j=>grind
    |zero=>simp only[xF,au] at hj;subst hj;rw[hk];exact .lit _
def Rl{P:Program}{O R:FuncId}{T:TypeId}(K:pJ P O R T){ii:Nat}{c:Int->TT ii}(U:∀k,enc ii (c k)=[.lit (.int .i64 k)]):dj.ok P (JT O R ii c):=by
 intro cs gi vs Y y ct x X Z σD ds h e d q s aa;unfold JT at h;split at h
 rotate_left
 ·simp at h
 rename_i o;split at h
 rotate_left
 ·simp at h
 rename_i f b hg;split at h
 rotate_left
 ·simp at h
 rename_i w0 v0 m hf hb;split at h
 rotate_left
 ·simp at h
 rename_i j st l ver hm;split at h
 rotate_left
 ·simp at h
 rename_i Ow t _;obtain ⟨S,hk,hy⟩:=OV _ (show dF [It.cc (.sl ii)]=qq [o] from Ig dF Ow) h;have:=dd hg;subst this;have:=dd hf;subst this;simp only[sS,au,yBA] at e;obtain ⟨rfl,hz⟩:=e;cases hz;obtain ⟨out,pl,nb,H,J,C⟩:=o;simp only[Ww,CT.out,CT.pl,CT.nb] at t;split at t
 rotate_left
 ·grind
 obtain rfl:ii=_:=(dd t).symm;have u:ds=[.fn (.func f) [] [.ptr b 0 1]]:=by
  cases s with
  |cons r a=>cases a;rw[RT.c1 (by simp) r];rfl
 subst u;have p:dS (CT.items (.mk [.v (.c (.sl ii))] [] [] H J C)) y=[⟨.cc (.sl ii),S⟩]:=by grind [dS]
 have g:X=[.c (.sl ii S)]/\Z=Y:=by unfold ma at d;rw[p] at d;simp only[CT.pl,CT.nb,CT.out,cd,dx,kz,zh,FC,dU,dP,CD,au,aU] at d;exact ⟨d.1.symm,d.2.symm⟩
 obtain ⟨rfl,rfl⟩:=g;refine ⟨K.en,?_⟩;have v:=q.hp b _ hb;have A:=q.hp m _ hm;obtain ⟨E,b1,G⟩:=v;obtain ⟨L,m1,N⟩:=A;have G:E=.cells [.mp m]:=G;have N:L=MB (Pv j st) l:=N;subst G N;have:=Iv K U b1 m1 hk;rw[<-q.eqD];exact this
end
end Go.Abs
end
section
namespace Go.Abs
noncomputable section
variable[Gl][σ:Ty]
def Ez{T:Type}(st:T->Int)(met:T->Option Bool):List T->Option (List T)
 |[]=>some []
 |a::r=>if (st a == 1)=true then (met a).bind λb=>(Ez st met r).bind λq=>some (if b=true then a::q else q) else Ez st met r
section
variable{P:Program}{c:Code}{a b:aQ}
theorem wh(h:bD P c=some (.seq a b)):∃c1 d,c=.seq c1 d/\bD P c1=some a/\bD P d=some b:=by
 cases c with
 |seq c1 d=>
  simp only[bD] at h;split at h
  ·rename_i x y m p;simp only[au,aQ.seq.injEq] at h;obtain ⟨rfl,rfl⟩:=h;exact ⟨c1,d,rfl,m,p⟩
  ·simp at h
 |region id ops j=>
  simp only[bD] at h;split at h
  ·cases j with
   |false=>simp at h
   |true=>simp only[if_true] at h;split at h <;> simp at h
  ·simp at h
 |cond o c1 d=>simp only[bD] at h;split at h <;> simp at h
 |scope b=>simp only[bD,cC] at h;obtain ⟨q,_,k⟩:=h;rcases IQ q with ⟨l,r,_,e⟩ | e <;> rw[e] at k <;> simp at k
 |rangeFunc g s x y=>rcases dZ h with ⟨_,_,_,_,_,_,_,e⟩ | e <;> cases e
 |_=>simp[bD] at h
theorem inv_reg{os:List aH}(h:bD P c=some (.Bb os)):∃id ops,c=.region id ops false/\ops.toList.mapM (bp P ops)=some os:=by
 cases c with
 |region id ops d=>
  simp only[bD] at h;split at h
  ·rename_i k m;cases d with
   |false=>simp only[b_,cw,au,aQ.Bb.injEq] at h;subst h;exact ⟨id,ops,rfl,m⟩
   |true=>simp only[if_true] at h;split at h <;> simp at h
  ·simp at h
 |seq c1 p=>simp only[bD] at h;split at h <;> simp at h
 |cond o c1 p=>simp only[bD] at h;split at h <;> simp at h
 |scope b=>simp only[bD,cC] at h;obtain ⟨q,_,j⟩:=h;rcases IQ q with ⟨l,r,_,e⟩ | e <;> rw[e] at j <;> simp at j
 |rangeFunc g s x y=>rcases dZ h with ⟨_,_,_,_,_,_,_,e⟩ | e <;> cases e
 |_=>simp[bD] at h
theorem K_{o:aT}(h:bD P c=some (.cond o a b)):∃x c1 d,c=.cond x c1 d/\cf x=some o/\bD P c1=some a/\bD P d=some b:=by
 cases c with
 |cond x c1 d=>
  simp only[bD] at h;split at h
  ·rename_i t u v m p q;simp only[au,aQ.cond.injEq] at h;obtain ⟨rfl,rfl,rfl⟩:=h;exact ⟨x,c1,d,rfl,m,p,q⟩
  ·simp at h
 |region id ops j=>
  simp only[bD] at h;split at h
  ·cases j with
   |false=>simp at h
   |true=>simp only[if_true] at h;split at h <;> simp at h
  ·simp at h
 |seq c1 d=>simp only[bD] at h;split at h <;> simp at h
 |scope b=>simp only[bD,cC] at h;obtain ⟨s,_,k⟩:=h;rcases IQ s with ⟨l,r,_,e⟩ | e <;> rw[e] at k <;> simp at k
 |rangeFunc g A x y=>rcases dZ h with ⟨_,_,_,_,_,_,_,e⟩ | e <;> cases e
 |_=>simp[bD] at h
theorem GJ{id:Nat}(h:bD P c=some (.block id a)):∃i c1,c=.block i c1/\2 * i=id/\bD P c1=some a:=by
 cases c with
 |block i c1=>simp only[bD,cC,aQ.block.injEq] at h;obtain ⟨j,m,p,rfl⟩:=h;exact ⟨i,c1,rfl,p,m⟩
 |region id ops d=>
  simp only[bD] at h;split at h
  ·cases d with
   |false=>simp at h
   |true=>simp only[if_true] at h;split at h <;> simp at h
  ·simp at h
 |seq c1 q=>simp only[bD] at h;split at h <;> simp at h
 |cond o c1 q=>simp only[bD] at h;split at h <;> simp at h
 |scope b=>simp only[bD,cC] at h;obtain ⟨j,_,k⟩:=h;rcases IQ j with ⟨l,r,_,e⟩ | e <;> rw[e] at k <;> simp at k
 |rangeFunc g s x y=>rcases dZ h with ⟨_,_,_,_,_,_,_,e⟩ | e <;> cases e
 |_=>simp[bD] at h
theorem ZM(h:bD P c=some (.loop a)):∃c1,c=.loop c1/\bD P c1=some a:=by
 cases c with
 |loop c1=>simp only[bD,cC,aQ.loop.injEq] at h;obtain ⟨j,m,rfl⟩:=h;exact ⟨c1,rfl,m⟩
 |region id ops d=>
  simp only[bD] at h;split at h
  ·cases d with
   |false=>simp at h
   |true=>simp only[if_true] at h;split at h <;> simp at h
  ·simp at h
 |seq c1 p=>simp only[bD] at h;split at h <;> simp at h
 |cond o c1 p=>simp only[bD] at h;split at h <;> simp at h
 |scope b=>simp only[bD,cC] at h;obtain ⟨j,_,k⟩:=h;rcases IQ j with ⟨l,r,_,e⟩ | e <;> rw[e] at k <;> simp at k
 |rangeFunc g q x y=>rcases dZ h with ⟨_,_,_,_,_,_,_,e⟩ | e <;> cases e
 |_=>simp[bD] at h
end
section
variable{P:Program}{ops:Array Oper}{Q:Exit->Act->World->Prop}{a:Act}{w:World}{n:Nat}{al:AL}{Y:ar}{M:Nat->Option Nat}{Fz:Nat->Prop}
theorem op_wide{o:Oper}{K:Act->World->Prop}(j:∀c,o.op≠.defer c)(h:o.wp P a w K Q):o.wpIn Fence.wide 0 P a w K Q:=by
 refine ⟨λf _=>trivial,?_⟩;rw[Oper.semAt_eq _ _ _ j];unfold Oper.wp at h;generalize (execOp a.eval o).run P w=r at *;cases r with
 |ok k g=>
  cases k with
  |value v=>exact h
  |skip=>exact h
  |defer d=>exact h
  |enter f args=>exact ⟨λe=>by simp[Fence.wide] at e,callsIn_wide.2 h⟩
  |row row args=>exact ⟨λe=>by simp[Fence.wide] at e,λc m _=>let ⟨v,g,r,s⟩:=h c m;⟨v,g,r,stepsIn_wide.2 s⟩⟩
  |_=>exact h.elim
 |halt e g=>cases e <;> first | exact h | exact h.elim
def Ur{i:Nat}{K:Act->World->Prop}(g:∀(i:Nat) o c,ops[i]? = some o->o.op≠.defer c)(j:¬LetsOut Q)(h:wpOp P ops Q i K a w):wpOpIn Fence.wide 0 P ops Q i K a w:=by
 unfold wpOp at h;unfold wpOpIn;split at h
 ·simp_all
 ·rename_i o e;simp only[e];split at h
  ·rename_i d;simp only[d,if_true]
   grind [op_wide]
  ·rename_i d;simp only[d,b_,cw];exact ⟨λf _=>trivial,h⟩
theorem Yg{orc:fA}(O:lT P orc)(U:∀(i:Nat) o c,ops[i]? = some o->o.op≠.defer c)(u:¬LetsOut Q){g:List Nat}:∀(os:List aH)(k:Nat)(Y Y':ar)(M:Nat->Option Nat)(Fz:Nat->Prop)(w:World)(e d:List D)(a:Act)(wr:List Nat),
  (∀j ao,os[j]? = some ao->∃o,ops[k+j]? = some o/\bp P ops o=some ao)->Rel Y M Fz w->dB Y M Fz w e a.tmps->jN P orc os e Y=some (d,Y',wr) ->
  (∀v q x p,v.defers=a.defers->Rel Y' x p q->dB Y' x p q d v.tmps->bF Y M Fz w Y' x p q->Y.length<=Y'.length->wpOpsIn Fence.wide 0 P ops Q g v q) ->
  wpOpsIn Fence.wide 0 P ops Q (List.range' k os.length++g) a w:=by
 intro os;induction os with
 |nil=>intro k Y Y' M Fz w e d a wr _ R E h u;simp only[jN,au,aU] at h;obtain ⟨rfl,rfl,_⟩:=h;exact u a w M Fz rfl R E (bF.refl R) (cP _)
 |cons ao os ih=>
  intro k Y Y' M Fz w e d a wr m R E h X;simp only[jN] at h;split at h
  ·rename_i r Y1 w1 Z;split at h
   ·rename_i s aC w2 h2;simp only[au,aU] at h;obtain ⟨rfl,rfl,_⟩:=h;obtain ⟨o,ho,y⟩:=m 0 ao (by simp);simp only[FA,List.range'_succ,JC];rw[wpOpsIn_cons];refine Ur U u (Dn O R E (by omega) y Z _ λa1 q M1 A aa R1 E1 G t=>?_);refine ih (k+1) Y1 aC M1 A q r s a1 w2 (λj K hj=>?_) R1 E1 h2 λa2 L M2 N ab R2 E2 S T=>?_
    ·obtain ⟨o',ad,af⟩:=m (j+1) K (by simp_all)
     grind
    ·exact X a2 L M2 N (by simp_all) R2 E2 (G.trans S t) (jk t T)
   simp_all
  simp_all
def eL{orc:fA}(O:lT P orc)(t:∀(i:Nat) o c,ops[i]? = some o->o.op≠.defer c)(u:¬LetsOut Q){e:List Nat}{os:List aH}{k:Nat}(m:∀j ao,os[j]? = some ao->∃o,ops[k+j]? = some o/\bp P ops o=some ao)
  (h:cj P orc 0 os n al Y λp Y' _=>∀q g r d,q.defers=a.defers->Rel Y' r d g->ed n Y' r d g p q.tmps->bF Y M Fz w Y' r d g->wpOpsIn Fence.wide 0 P ops Q e q g)
  (R:Rel Y M Fz w) (A:ed n Y M Fz w al a.tmps):wpOpsIn Fence.wide 0 P ops Q (List.range' k os.length++e) a w:=by
 obtain ⟨p,Y',S,v,x⟩:=h;obtain ⟨y,E,G⟩:=v _ A.de.2;exact Yg O t u os k Y Y' M Fz w _ y a _ m R A.de.1 (EQ _ _ _ _ _ _ E) λq g r d s K L N hl=>x q g r d s K (ed.RZ L G) N
def mapM_at{os:List aH}(h:ops.toList.mapM (bp P ops)=some os):os.length=ops.size/\∀(j:Nat) ao,os[j]? = some ao->∃o,ops[j]? = some o/\bp P ops o=some ao:=by
 obtain ⟨d,e⟩:=KJ h
 simp_all
def zE{cs:List D}{m:Nat}(h:cs.length=m):uL (some m) cs 0=some (.agg cs):=by
 simp only[uL]
 grind
def wF.step{B:Nat}{J:(Nat->Prop)->(Nat->Prop)->World->Prop}(h:wF B J){Y Y':ar}{M o:Nat->Option Nat}{F F' U:Nat->Prop}{W W':World}(s:J F U W)(A:∀b c,M b=some c->¬U c/\B<=c)(E:bF Y M F W Y' o F' W')(u:Rel Y' o F' W') :
  J F' (λc=>U c\/F' c) W'/\∀b c,o b=some c->¬(U c\/F' c)/\B<=c:=by
 have x:=h.lt F U W s;have G:=h.le F U W s;refine ⟨h.grow F U W' F' (h.off F U W W' s E.size (λc j=>E.frame c (j.elim (x c) (by omega)) λb hb=>?_) E.out) (λc j=>(E.fz c j).1) λc j=>?_,λb c hb=>?_⟩
 ·grind
 ·rcases E.nF c j with K | ⟨b,hb⟩ | K
  ·simp_all
  ·exact .inr ⟨(A b c hb).1,(A b c hb).2,u.fz c j⟩
  ·exact .inr ⟨λR=>by grind,by omega,u.fz c j⟩
 ·have X:=(u.blk b c hb).1;rcases E.lP b c hb with ⟨Z,O⟩ | O
  ·grind
  grind
theorem ed.data{o:AL}{j:Array Value}(h:ed n Y M Fz w al j)(hs:∀t d,lk t o=some d->lk t al=some d/\d.low 0=true):ed n [] (λ_=>none) Fz w o j:=
 ⟨h.1,λt d s=>let ⟨h1,h2⟩:=hs t d s;let ⟨v,h3,h4⟩:=h.2 t d h1;⟨v,h3,h4.data h2 _ _⟩⟩
def Hd{h:List Nat}{i d t:Nat}{o:Oper}{g:Option (Nat×Bool)}{r:List D}{c:Nat}{x:C}{arr:Array Value}{T:TypeId}(ho:ops[i]? = some o)(q:bp P ops o=some ⟨some d,.load none (.t t),g⟩)(K:Gl.ok Fz w)(E:dB Y M Fz w r a.tmps)(hw:g_ r g=some true)
  (S:a.tmps[t]? = some (.pointer (some ⟨c,0,none⟩))) (hh:w.heap[c]? = some (.cells arr T (0,0))) (hl:1<=arr.size) (U:∀u,arr[0]? = some u->VC Fz w x u/\u.oneCell'=true)
  (hK:∀v,VC Fz w x v->wpOpsIn Fence.wide 0 P ops Q h (a.put (some d) v) w):wpOpsIn Fence.wide 0 P ops Q (i::h) a w:=by
 unfold bp at q;split at q
 ·rename_i g' ao hg s;simp only[au,aH.mk.injEq] at q;obtain ⟨X,rfl,rfl⟩:=q;have L:=zr s;rcases uT s with ⟨f,args,aa,of,os,_,_,_,e⟩ | ⟨h0,N,_⟩
  ·simp at e
  have m:=ow E hg hw;rw[wpOpsIn_cons];unfold wpOpIn;rw[ho];simp only[m,if_true];have ht:t<a.tmps.size:=(CK.1 S).1;have E1:dB [.cells [.c x]] (λb=>if b=0 then some c else none) Fz w ((List.replicate a.tmps.size D.any).set t (.ptr 0 0 1)) a.tmps:=by
   refine ⟨by simp,λj d v k p=>?_⟩;rw[yBM] at k;split at k
   ·rename_i e;subst e;split at k
    ·simp only[au] at k;subst k;rw[S] at p;simp only[au] at p;subst p;exact .ptr _ (.cells [.c x]) rfl (cP _) λ_=>⟨c,rfl,rfl⟩
    simp_all
   ·have:d=.any:=by
     grind
    subst this;exact .any v
  have O:bx P (λ_ _ _=>none) (.load none (.t t)) ((List.replicate a.tmps.size D.any).set t (.ptr 0 0 1)) [.cells [.c x]]=some (.c x,[.cells [.c x]],[]):=by
   have:aT.ev ((List.replicate a.tmps.size D.any).set t (.ptr 0 0 1)) (.t t)=.ptr 0 0 1:=by grind [aT.ev]
   simp only[bx,this];rfl
  have A:∃v,(execOp a.eval o).run P w=.ok (.value v) w/\VC Fz w x v:=by
   cases DL (M:=λb=>if b=0 then some c else none) (Fz:=Fz) (w:=w) K E1 h0 N O with
   |y q _=>grind [cat]
   |l _ _ hy=>
    obtain ⟨v,k,p⟩:=hy λb off sz c' cs hb Z G=>by
     have R:b=0:=by simp_all
     subst R;simp only[if_true,au] at Z;subst Z;simp only[xF,au,Ob.cells.injEq] at G;subst G;refine ⟨arr,T,hh,by omega,λj d u k p=>?_⟩;have hj:j=0:=by grind
     subst hj;simp only[xF,au] at k;subst k;exact ⟨.c (U u p).1,(U u p).2⟩
    grind [V.pV]
   |g q _=>grind [cat]
  obtain ⟨v,hr,hV⟩:=A;refine ⟨λf _=>trivial,?_⟩;rw[Oper.semAt_eq _ _ _ L,hr];show wpOpsIn Fence.wide 0 P ops Q h (a.put o.dst v) w
  simp_all
 simp_all
def Pu{m:List Nat}{i d f t l:Nat}{o:Oper}{g:Option (Nat×Bool)}{q:List D}{v:Value}{R:Ending->World->Prop}(X:ops[i]? = some o)(u:bp P ops o=some ⟨some d,.call (.t f) [.t t],g⟩)(E:dB Y M Fz w q a.tmps)(Z:g_ q g=some true)
  (hf:a.tmps[f]? = some (.func (.yield l) #[] #[])) (ht:a.tmps[t]? = some v) (hy:YieldAt Fence.wide 0 P l #[v] w R)
  (hK:∀e A,R e A->∃b,e=.returned b/\wpOpsIn Fence.wide 0 P ops Q m (a.put (some d) b) A):wpOpsIn Fence.wide 0 P ops Q (i::m) a w:=by
 unfold bp at u;split at u
 ·rename_i g' ao hg G;simp only[au,aH.mk.injEq] at u;obtain ⟨O,rfl,rfl⟩:=u;have tm:∀(x:Operand)(t:Nat),cf x=some (.t t)->x=.tmp t:=λx t S=>by
   cases x <;> simp[cf] at S
   rw[S]
  rcases uT G with ⟨f',args,aa,of,os,ab,h1,h2,e⟩ | ⟨_,K,_⟩
  ·simp only[kN.call.injEq] at e;obtain ⟨rfl,rfl⟩:=e;have L:=tm f' f h1;subst L;have N:args.map a.eval=#[v]:=by
    obtain ⟨l1,l2⟩:=KJ (show args.toList.mapM cf=some [.t t] from h2);have hl:args.size=1:=by simp_all
    have T:args=#[.tmp t]:=by
     apply Array.ext
     ·omega
     ·intro j ad af;have hj:j=0:=by omega
      subst hj;obtain ⟨y,ak,an⟩:=l2 0 (.t t) rfl
      grind
    rw[T];simp[Act.eval,ht]
   have p:=ow E hg Z;rw[wpOpsIn_cons];unfold wpOpIn;rw[X];simp only[p,if_true];obtain ⟨fn,r,h,s,U,k⟩:=hy;have av:a.eval (.tmp f)=.func (.yield l) #[] #[]:=by simp[Act.eval,hf]
   have hr:(execOp a.eval o).run P w=.ok (.round l fn r h s) w:=by grind [Go.execOp,Go.resolve,Go.Deferred.ofValue,Go.invoke]
   refine ⟨λf _=>trivial,?_⟩;rw[Oper.semAt_eq _ _ _ (by grind),hr,Oper.uponIn_round];refine ⟨λhh=>by simp[Fence.wide] at hh,k.mono λe A T=>?_⟩
   grind
  grind [AX]
 simp_all
def mn{c:Code}{os:List aH}(k:bD P c=some (.Bb os))(h:∀ops:Array Oper,ops.size=os.length->(∀(j:Nat) ao,os[j]? = some ao->∃o,ops[j]? = some o/\bp P ops o=some ao)->(∀(i:Nat) o c,ops[i]? = some o->o.op≠.defer c) ->
  wpOpsIn Fence.wide 0 P ops (kS Q) (List.range os.length) a w):c.wpIn Fence.wide 0 P Q a w:=by
 obtain ⟨id,ops,rfl,m⟩:=inv_reg k;obtain ⟨e,g⟩:=mapM_at m;refine wpIn_mono (Q:=kS Q) (wpIn_region ?_) λ_ _ _ h=>h.1;rw[<-e];refine h ops e.symm g λj o c p=>?_;have d:j<os.length:=by grind
 obtain ⟨q,r,s⟩:=g j _ (dW d)
 grind [pM]
end
def able2(es:Nat)(z:List D):List aH:=[⟨some 9,.idx es none (.t 5) (.t 7),none⟩,⟨some 10,.load (some es) (.t 9),none⟩,⟨some 4,.alloc z,none⟩,⟨none,.store es (.t 4) (.t 10),none⟩]
def IU(es so ti tb:Nat):List aH:=[⟨some 11,.HW so (.t 4),none⟩,⟨some 12,.load none (.t 11),none⟩,⟨some 13,.gen (.binOp .eql ti (.tmp 12) (.const (.int .i64 1)) ti) tb,none⟩,⟨some 14,.AO (.t 13),none⟩,⟨some 15,.load (some es) (.t 4),some (14,true)⟩]
def WZ:aH:=⟨some 16,.load none (.t 1),some (14,true)⟩
def KA(gm:Nat):List aH:=[⟨some 17,.call (.k (.c (.fn (.func gm) [] []))) [(.t 15),(.t 16)],some (14,true)⟩,⟨some 18,.pick (.t 14) (.t 17) (.k (.c (.lit (.bool false)))),none⟩,⟨some 19,.AO (.t 18),none⟩]
def Ba(es:Nat):List aH:=[⟨some 20,.AO (.t 0),some (19,true)⟩,⟨some 21,.load (some es) (.t 4),some (19,true)⟩]
def QU:aH:=⟨some 22,.call (.t 20) [(.t 21)],some (19,true)⟩
def yD(tb:Nat):List aH:=[⟨some 23,.gen (.unOp .not tb (.tmp 22)) tb,some (19,true)⟩,⟨some 24,.pick (.t 19) (.t 23) (.k (.c (.lit (.bool false)))),none⟩]
def WE(es so ti tb gm:Nat):List aH:=IU es so ti tb++(WZ::(KA gm++(Ba es++(QU::yD tb))))
def ZX(ti:Nat):List aH:=[⟨some 8,.gen (.binOp .lss ti (.tmp 7) (.tmp 6) ti) 0,none⟩]
def able4(ti:Nat):List aH:=[⟨some 25,.gen (.binOp .add ti (.tmp 7) (.const (.int .i64 1)) ti) ti,none⟩,⟨some 7,.AO (.t 25),none⟩]
def able0:List aH:=[⟨some 5,.load none (.t 1),none⟩,⟨some 6,.len (.t 5),none⟩,⟨some 7,.AO (.k (.c (.lit (.int .i64 0)))),none⟩]
def ableL(es so ti tb gm:Nat)(z:List D):aQ:=.seq (.Bb (ZX ti)) (.seq (.cond (.t 8) .skip (.exit 0)) (.seq (.block 2 (.seq (.Bb (able2 es z)) (.seq (.Bb (WE es so ti tb gm)) (.cond (.t 24) .ret .skip)))) (.Bb (able4 ti))))
def ableA(es so ti tb gm:Nat)(z:List D):kP:=⟨2,26,[],.seq (.Bb able0) (.block 0 (.loop (ableL es so ti tb gm z))),true⟩
section
variable{P:Program}{n:Nat}{al:AL}{Y:ar}{M:Nat->Option Nat}{F F':Nat->Prop}{W W':World}
theorem ed.put{a:Act}{t:Nat}{d:D}{v:Value}(A:ed n Y M F W al a.tmps)(j:t<n)(o:V Y M F W d v):ed n Y M F W ((t,d)::al) (a.put (some t) v).tmps:=by
 refine ⟨by simp[Act.put,A.1],λs e hs=>?_⟩;simp only[lk] at hs;simp only[Act.put];split at hs
 ·rename_i hb;have:=dd hb;subst this;simp only[au] at hs;subst hs;refine ⟨v,?_,o⟩;rw[yAW,if_pos rfl,if_pos (by rw[A.1];exact j)]
 ·rename_i hb;obtain ⟨u,x,E⟩:=A.2 s e hs;refine ⟨u,?_,E⟩;rw[yAW,if_neg (λe=>by simp_all)];exact x
def ed.dataF{j:Array Value}(A:ed n Y M F W al j)(s:∀t d,lk t al=some d->∃x,d=.c x)(u:∀c:Nat,F c->F' c/\W'.heap[c]? = W.heap[c]?):ed n [] (fun _=>none) F' W' al j:=
 ⟨A.1,fun t d o=>by
  obtain ⟨v,E,G⟩:=A.2 t d o
  obtain ⟨x,rfl⟩:=s t d o
  exact ⟨v,E,.c (G.pV.mono u)⟩⟩
def ed.lks{o:AL}{j:Array Value}(A:ed n Y M F W al j)(hs:∀t d,lk t o=some d->lk t al=some d):ed n Y M F W o j:=⟨A.1,λt d s=>A.2 t d (hs t d s)⟩
def BC{ops:Array Oper}{d os:List aH}{k:Nat}(h:∀(j:Nat) ao,d[j]? = some ao->∃o,ops[j]? = some o/\bp P ops o=some ao)(e:∀j,j<os.length->d[k+j]? = os[j]?):∀j ao,os[j]? = some ao->∃o,ops[k+j]? = some o/\bp P ops o=some ao:=
 λj ao g=>h (k+j) ao (by grind)
def nk(i:Nat)(l:List (TT i))(d pv:Value)(k:Int):AL:=[(7,I k),(6,I l.length),(5,.c (.cJ false (l.map (enc i)))),(0,.c (.lit d)),(1,.c (.lit pv))]
def ableH_c{i:Nat}{l:List (TT i)}{e pv:Value}{k:Int}:∀t d,lk t (nk i l e pv k)=some d->∃x,d=.c x:=by
 intro t d h;have:=mU h;simp only[nk,gy,LL,Nj,aU] at this
 grind
theorem Sg(c:CC)(a:c.dn):E_ c (tc c a)=some a:=by
 cases c with
 |int k=>simp only[tc,E_];split <;> first | rfl | grind
 |bool=>rfl
 |str=>rfl
 |sl j=>simp only[tc,E_,iB];split <;> first | rfl | omega
 |fk d=>rfl
theorem rdT_exp:∀(cs:List CC)(x:aV cs),DS cs (uj cs x)=some x:=by
 intro cs;induction cs with
 |nil=>intro x;rfl
 |cons c cs ih=>grind [uj,DS,Sg]
def enc_nrm(i:Nat)(a:TT i)(l:List (TT i)):([ST (enc i a),.c (.cJ false (l.map (enc i)))]:List D).map CQ=[ST (enc i a),.c (.cJ false (l.map (enc i)))]/\(([ST (enc i a),.c (.cJ false (l.map (enc i)))]:List D).all λd=>d.low 0&&d.plain)=true:=by
 have h:yc [.st i,.c (.sl i)] (tvV [.st i,.c (.sl i)] (a,l,()))=some (a,l,()):=by
  have e:qC (.st i) (dt.tv (.st i) a)=some a:=by
   show Cw i (.agg (exp i a))=some a
   grind [Cw,exp,rdT_exp,Ty.mp]
  have g:qC (.c (.sl i)) (dt.tv (.c (.sl i)) l)=some l:=Sg (.sl i) l
  grind [tvV,yc]
 exact Ru h (.cons (dt.EA (.st i) a) (.cons (dt.EA (.c (.sl i)) l) .nil))
end
section
variable{P:Program}{i so ti tb gm:Nat}{z:List D}{st:TT i->Int}{metf:TT i->List (TT i)->Option Bool}
def SP(gm:Nat)(ds:List D)(b:Bool):xE:=open Classical in [(gm,λd=>if d=ds then some (B b) else none)]
theorem WA{ds:List D}{b:Bool}(h:Pure P gm ds (B b)):lT P (λ_=>CW (SP gm ds b)):=λ_=>mh λp e d r g=>by grind [SP]
variable{B:Nat}{lb:Array Value}{J:Nat->(Nat->Prop)->(Nat->Prop)->World->Prop}{Jx:(Nat->Prop)->(Nat->Prop)->World->Prop}{l:List (TT i)}{items:List (List D)}{ly:Nat}{pv:Value}
def ableEnd(B:Nat)(J:Nat->(Nat->Prop)->(Nat->Prop)->World->Prop)(Jx:(Nat->Prop)->(Nat->Prop)->World->Prop)(H:AL)(it:Nat)(g:Exit->Act->World->Prop):Prop:=
 ∀F' e W' d (b:Bool),d.defers=[]->ed 26 [] (λ_=>none) F' W' ((24,Abs.B b)::H) d.tmps->((b=false/\J it F' e W')\/(b=true/\Jx F' e W'))->g .normal d W'
theorem able_r3(dG:P.follows .mixedOrders=true)(b4:∀a,(enc i a)[so]? = some (.lit (.int .i64 (st a))))
  (ad:∀x:Int,gR P .eql ti (.tmp 12) (.const (.int .i64 1)) (.int .i64 x) (.int .i64 1)=some (.bool (x == 1))) (af:∀b:Bool,fE P (Op.unary .not (.bool b))=some (.bool (!b)))
  (hm:bJ P gm ⟨[.st i,.c (.sl i)],[.c .bool],fun a=>metf a.1 a.2.1⟩)
  (hJ:∀k,wF B (J k)) (be:wF B Jx) (ak:∀k F U W,J k F U W->Caps F W [[.cJ false (l.map (enc i))]] lb) (bh:lb[0]? = some pv)
  (y:∀k ds F U W vs,items[k]? = some ds->J k F U W->Vals F W ds vs ->
   YieldAt Fence.wide 0 P ly vs W fun e W'=>∃F' E,Kept F U W F' E W'/\((e=.returned (.bool true)/\J (k+1) F' E W')\/(e=.returned (.bool false)/\Jx F' E W')))
  {c3:Code} (an:bD P c3=some (.Bb (WE (aB i) so ti tb gm))) {a:TT i} {k:Int} {it:Nat} {F U:Nat->Prop} {W:World} {M:Nat->Option Nat} {s:Act} {Qy:Exit->Act->World->Prop}
  (R:Rel [.cells ((enc i a).map .c)] M F W) (A:ed 26 [.cells ((enc i a).map .c)] M F W ((4,.ptr 0 0 (aB i))::nk i l (.func (.yield ly) #[] #[]) pv k) s.tmps) (b5:s.defers=[]) (r:J it F U W) (hO:∀b c,M b=some c->¬U c/\B≤c)
  (av:st a=1->∃b,metf a l=some b/\(b=true->items[it]? = some [ST (enc i a)]))
  (hK:∀b,(st a=1->metf a l=some b)->(st a≠1->b=false)->ableEnd B J Jx (nk i l (.func (.yield ly) #[] #[]) pv k) (if b=true then it+1 else it) Qy):c3.wpIn Fence.wide 0 P Qy s W:=by
 have L:((enc i a).map D.c).length=aB i:=by rw [vR,uU]
 have o:nW [Ob.cells ((enc i a).map D.c)] 0 (aB i)=some ((enc i a).map D.c):=Qk rfl L
 have N:uL none ((enc i a).map D.c) (0+so)=some (I (st a)):=by
  show ((enc i a).map D.c)[0+so]? = _
  simp_all
 have S:uL (some (aB i)) ((enc i a).map D.c) 0=some (ST (enc i a)):=zE L
 by_cases h1:st a=1
 ·obtain ⟨b,hb,Ow⟩:=av h1
  obtain ⟨bi,bk⟩:=enc_nrm i a l
  have O:=WA (P:=P) (gm:=gm) (ds:=[ST (enc i a),.c (.cJ false (l.map (enc i)))]) (b:=b) (hm (a,l,()) b hb)
  have aa:CW (SP gm [ST (enc i a),.c (.cJ false (l.map (enc i)))] b) gm [ST (enc i a),.c (.cJ false (l.map (enc i)))] [Ob.cells ((enc i a).map D.c)]=some (Abs.B b,[Ob.cells ((enc i a).map D.c)],[]):=
   zN (F:=fun bl=>open Classical in if bl=[ST (enc i a),.c (.cJ false (l.map (enc i)))] then some (Abs.B b) else none) (by simp [SP,Wa]) bk bi (by simp) rfl
  refine mn an fun ops hs g m=>?_
  show wpOpsIn Fence.wide 0 P ops (kS Qy) (List.range' 0 (IU (aB i) so ti tb).length++(5::(List.range' 6 (KA gm).length++(List.range' 9 (Ba (aB i)).length++(11::(List.range' 12 (yD tb).length++[])))))) s W
  refine eL O m Vj (BC g fun j r=>?_) ?_ R A
  ·have:j=0\/j=1\/j=2\/j=3\/j=4:=by simp [IU] at r; omega
   rcases this with rfl | rfl | rfl | rfl | rfl <;> rfl
  unfold IU
  refine cj.op (Kg rfl) iq rfl (cj.op (rk rfl o N) iq rfl (cj.op (dX (v:=.bool (st a == 1)) rfl rfl rfl rfl (ad _) rfl) iq rfl (cj.op (Ay rfl) iq rfl (cj.op (rk rfl o S) (gH rfl (by simp [h1])) rfl (cj.nil ?_)))))
  intro a1 W1 M1 F1 b6 R1 A1 E1
  obtain ⟨j1,o1⟩:=(hJ it).step r hO E1 R1
  obtain ⟨c,rfl,b7,T,hh,hl,hx⟩:=(ak it _ _ _ j1).2 0 _ pv rfl bh
  obtain ⟨o5,bt,bu⟩:=g 5 WZ rfl
  obtain ⟨v1,bv,bw⟩:=A1.2 1 _ rfl
  have:=bw.ce
  subst this
  refine Hd bt bu R1.gl A1.de.1 (gH rfl (by simp [h1]) 26 _ A1.de.2) bv hh (by omega) (fun u hu=>hx 0 _ u rfl hu) fun v hv=>?_
  have A2:=A1.put (t:=16) (d:=.c (.cJ false (l.map (enc i)))) (by omega) (.c hv)
  refine eL O m Vj (BC g fun j r=>?_) ?_ R1 A2
  ·have:j=0\/j=1\/j=2:=by simp [KA] at r; omega
   rcases this with rfl | rfl | rfl <;> rfl
  unfold KA
  refine cj.op (Iu rfl rfl aa) (gH rfl (by simp [h1])) rfl (cj.op (vh rfl (by simp [h1]) rfl) iq rfl (cj.op (Ay rfl) iq rfl (cj.nil ?_)))
  intro a3 W3 M3 F3 b0 R3 A3 E3
  obtain ⟨j3,o3⟩:=(hJ it).step j1 o1 E3 R3
  have b3:a3.defers=[]:=by rw [b0]; show a1.defers=[]; simp_all
  cases b with
  | false =>
   show wpOpsIn Fence.wide 0 P ops (kS Qy) (List.range' 9 (Ba (aB i)++(QU::yD tb)).length++[]) a3 W3
   refine eL O m Vj (BC g fun j r=>?_) ?_ R3 A3
   ·have:j=0\/j=1\/j=2\/j=3\/j=4:=by simp [Ba,yD] at r; omega
    rcases this with rfl | rfl | rfl | rfl | rfl <;> rfl
   refine cj.no (PP rfl rfl) rfl (cj.no (PP rfl rfl) rfl (cj.no (PP rfl rfl) rfl (cj.no (PP rfl rfl) rfl (cj.op (qc rfl rfl rfl) iq rfl (cj.nil ?_)))))
   intro a4 W4 M4 F4 ax R4 G E4
   obtain ⟨j4,_⟩:=(hJ it).step j3 o3 E4 R4
   refine ⟨hK false (fun _=>hb) (fun _=>rfl) F4 _ W4 a4 false (by simp_all) (G.data fun t d K=>?_) (.inl ⟨rfl,j4⟩),by simp⟩
   have:=mU K
   simp only [nk,gy,LL,Nj,aU] at this
   rcases this with ⟨rfl,rfl⟩ | ⟨rfl,rfl⟩ | ⟨rfl,rfl⟩ | ⟨rfl,rfl⟩ | ⟨rfl,rfl⟩ | ⟨rfl,rfl⟩ <;> exact ⟨rfl,rfl⟩
  | true =>
   refine eL O m Vj (BC g fun j r=>?_) ?_ R3 A3
   ·have:j=0\/j=1:=by simp [Ba] at r; omega
    rcases this with rfl | rfl <;> rfl
   unfold Ba
   refine cj.op (Ay rfl) (gH rfl rfl) rfl (cj.op (rk rfl o S) (gH rfl rfl) rfl (cj.nil ?_))
   intro a4 W4 M4 F4 ax R4 G E4
   obtain ⟨j4,o4⟩:=(hJ it).step j3 o3 E4 R4
   obtain ⟨b8,a0,a2⟩:=g 11 QU rfl
   obtain ⟨b9,a5,a7⟩:=G.2 20 _ rfl
   have:=a7.ce
   subst this
   obtain ⟨a8,a9,bb⟩:=G.2 21 _ rfl
   refine Pu a0 a2 G.de.1 (gH rfl rfl 26 _ G.de.2) a5 a9 (y it _ F4 _ W4 #[a8] (Ow rfl) j4 ⟨rfl,fun q d v g1 g2=>?_⟩) fun e w' he=>?_
   ·have hq:q=0:=by
     grind
    subst hq
    simp only [xF,au] at g1
    subst g1
    have g2:some a8=some v:=g2
    simp only [au] at g2
    subst g2
    exact bb.data (by grind) _ _
   ·obtain ⟨F5,U5,kp,b1⟩:=he
    have Z:∀(q:Bool) (X:(Nat->Prop)->(Nat->Prop)->World->Prop),wF B X->X F5 U5 w'->(∀F' E W',X F' E W'->((!q)=false/\J (it+1) F' E W')\/((!q)=true/\Jx F' E W'))->wpOpsIn Fence.wide 0 P ops (kS Qy) (List.range' 12 (yD tb).length++[]) (a4.put (some 22) (.bool q)) w':=by
     intro q X hX bc bd
     have A5:ed 26 [] (fun _=>none) F5 w' ((22,Abs.B q)::(19,Abs.B true)::nk i l (.func (.yield ly) #[] #[]) (.pointer (some ⟨c,0,none⟩)) k) (a4.put (some 22) (.bool q)).tmps:=by
      refine ed.put (ed.dataF (G.lks fun t d K=>?_) (fun t d K=>?_) kp.fz) (by omega) (.c (.lit _))
      ·have:=mU K
       simp only [nk,gy,LL,Nj,aU] at this
       rcases this with ⟨rfl,rfl⟩ | ⟨rfl,rfl⟩ | ⟨rfl,rfl⟩ | ⟨rfl,rfl⟩ | ⟨rfl,rfl⟩ | ⟨rfl,rfl⟩ <;> rfl
      ·have:=mU K
       simp only [nk,gy,LL,Nj,aU] at this
       grind
     refine eL O m Vj (BC g fun j r=>?_) ?_ (hX.rel _ _ _ bc) A5
     ·have:j=0\/j=1:=by simp [yD] at r; omega
      rcases this with rfl | rfl <;> rfl
     unfold yD
     refine cj.op (Yo (v:=.bool (!q)) rfl rfl (af q) rfl) (gH rfl rfl) rfl (cj.op (vh rfl rfl rfl) iq rfl (cj.nil ?_))
     intro a6 W6 M6 F6 b2 R6 A6 E6
     obtain ⟨j6,_⟩:=hX.step bc (fun b c h=>by simp at h) E6 R6
     refine ⟨hK true (fun _=>hb) (fun h=>absurd h1 h) F6 _ W6 a6 (!q) (by rw [b2]; show a4.defers=[]; simp_all) (A6.data fun t d K=>?_) (bd _ _ _ j6),by simp⟩
     have:=mU K
     simp only [nk,gy,LL,Nj,aU] at this
     rcases this with ⟨rfl,rfl⟩ | ⟨rfl,rfl⟩ | ⟨rfl,rfl⟩ | ⟨rfl,rfl⟩ | ⟨rfl,rfl⟩ | ⟨rfl,rfl⟩ <;> exact ⟨rfl,rfl⟩
    rcases b1 with ⟨rfl,ab⟩ | ⟨rfl,ab⟩
    ·exact ⟨_,rfl,Z true (J (it+1)) (hJ _) ab fun F' E W' h=>.inl ⟨rfl,h⟩⟩
    ·exact ⟨_,rfl,Z false Jx be ab fun F' E W' h=>.inr ⟨rfl,h⟩⟩
 ·have hf:(st a == 1)=false:=by simp_all
  have O:lT P (fun _=>CW []):=fun _=>mh fun p hp=>by grind
  refine mn an fun ops hs g m=>?_
  show wpOpsIn Fence.wide 0 P ops (kS Qy) (List.range' 0 (WE (aB i) so ti tb gm).length++[]) s W
  refine eL O m Vj (fun j ao r=>by simp_all) ?_ R A
  refine cj.op (Kg rfl) iq rfl (cj.op (rk rfl o N) iq rfl (cj.op (dX (v:=.bool (st a == 1)) rfl rfl rfl rfl (ad _) rfl) iq rfl (cj.op (Ay rfl) iq rfl (cj.no (PP rfl (by simp [hf])) rfl (cj.no (PP rfl (by simp [hf])) rfl (cj.no (PP rfl (by simp [hf])) rfl
   (cj.op (qc rfl hf rfl) iq rfl (cj.op (Ay rfl) iq rfl (cj.no (PP rfl rfl) rfl (cj.no (PP rfl rfl) rfl (cj.no (PP rfl rfl) rfl (cj.no (PP rfl rfl) rfl (cj.op (qc rfl rfl rfl) iq rfl (cj.nil ?_))))))))))))))
  intro a4 W4 M4 F4 ax R4 G E4
  obtain ⟨j4,_⟩:=(hJ it).step r hO E4 R4
  refine ⟨hK false (fun h=>absurd h h1) (fun _=>rfl) F4 _ W4 a4 false (by simp_all) (G.data fun t d K=>?_) (.inl ⟨rfl,j4⟩),by simp⟩
  have:=mU K
  simp only [nk,gy,LL,Nj,aU] at this
  rcases this with ⟨rfl,rfl⟩ | ⟨rfl,rfl⟩ | ⟨rfl,rfl⟩ | ⟨rfl,rfl⟩ | ⟨rfl,rfl⟩ | ⟨rfl,rfl⟩ <;> exact ⟨rfl,rfl⟩
end
section
variable{P:Program}{c:Code}
theorem Nv(h:bD P c=some .skip):c=.skip:=by
 cases c with
 |skip=>rfl
 |region id ops d=>
  simp only[bD] at h
  grind
 |seq c1 e=>grind [bD]
 |cond o c1 e=>grind [bD]
 |scope b=>grind [bD,Option.map_eq_some_iff,IQ]
 |rangeFunc g j x y=>grind [dZ]
 |_=>simp[bD] at h
theorem inv_ret(h:bD P c=some .ret):c=.ret:=by
 cases c with
 |ret=>rfl
 |region id ops d=>
  simp only[bD] at h;split at h
  ·cases d with
   |false=>simp at h
   |true=>simp only[if_true] at h;split at h <;> simp at h
  ·simp at h
 |seq c1 k=>simp only[bD] at h;split at h <;> simp at h
 |cond o c1 k=>simp only[bD] at h;split at h <;> simp at h
 |scope b=>simp only[bD,cC] at h;obtain ⟨m,_,j⟩:=h;rcases IQ m with ⟨l,r,_,e⟩ | e <;> rw[e] at j <;> simp at j
 |rangeFunc g p x y=>rcases dZ h with ⟨_,_,_,_,_,_,_,e⟩ | e <;> cases e
 |_=>simp[bD] at h
theorem WF{i:Nat}(h:bD P c=some (.exit (2 * i))):c=.exit i:=by
 cases c with
 |exit j=>simp only[bD,au,aQ.exit.injEq] at h;rw[show j=i by omega]
 |goto j=>simp only[bD,au,aQ.exit.injEq] at h;omega
 |region id ops d=>
  simp only[bD] at h;split at h
  ·cases d with
   |false=>simp at h
   |true=>simp only[if_true] at h;split at h <;> simp at h
  ·simp at h
 |seq c1 m=>simp only[bD] at h;split at h <;> simp at h
 |cond o c1 m=>simp only[bD] at h;split at h <;> simp at h
 |scope b=>simp only[bD,cC] at h;obtain ⟨p,_,k⟩:=h;rcases IQ p with ⟨l,r,_,e⟩ | e <;> rw[e] at k <;> simp at k
 |rangeFunc g q x y=>rcases dZ h with ⟨_,_,_,_,_,_,_,e⟩ | e <;> cases e
 |_=>simp[bD] at h
end
section
variable{P:Program}{i so ti tb gm:Nat}{z:List D}{st:TT i->Int}{metf:TT i->List (TT i)->Option Bool}
variable{B:Nat}{lb:Array Value}{J:Nat->(Nat->Prop)->(Nat->Prop)->World->Prop}{Jx:(Nat->Prop)->(Nat->Prop)->World->Prop}{l:List (TT i)}{ly:Nat}{pv:Value}
theorem Ns:∀(cs:List CC)(x:aV cs),(uj cs x).all TC.scalar=true:=by
 intro cs;induction cs with
 |nil=>intro x;rfl
 |cons c cs ih=>intro x;simp only[uj,SW,ih,Qm];cases c <;> rfl
def Dg(J:Nat->(Nat->Prop)->(Nat->Prop)->World->Prop)(Jx:(Nat->Prop)->(Nat->Prop)->World->Prop)(m:Nat):Exit->Act->World->Prop:=λe a W=>(e=.normal\/e=.ret)/\a.defers=[]/\∃F U,J m F U W\/Jx F U W
def Xt{T:Type}(st:T->Int)(met:T->Option Bool)(l:List T):Option (List T):=match Nat.ble l.length 1000000 with | true=>Ez st met l | false=>none
theorem MO(dG:P.follows .mixedOrders=true)(hz:z.length=aB i)(ax:∀a,(enc i a)[so]? = some (.lit (.int .i64 (st a))))
  (X:∀x y:Int,gR P .lss ti (.tmp 7) (.tmp 6) (.int .i64 x) (.int .i64 y)=some (.bool (decide (x<y))))
  (a0:∀x:Int,gR P .eql ti (.tmp 12) (.const (.int .i64 1)) (.int .i64 x) (.int .i64 1)=some (.bool (x == 1)))
  (Z:∀x:Int,gR P .add ti (.tmp 7) (.const (.int .i64 1)) (.int .i64 x) (.int .i64 1)=some (.int .i64 (i64.wrap (x+1)))) (aa:∀b:Bool,fE P (Op.unary .not (.bool b))=some (.bool (!b)))
  (hm:bJ P gm ⟨[.st i,.c (.sl i)],[.c .bool],fun a=>metf a.1 a.2.1⟩)
  (R:∀k,wF B (J k)) (a6:wF B Jx) (ck:l.length≤1000000) {r:List (TT i)} (ab:∀k F U W,J k F U W->Caps F W [[.cJ false (l.map (enc i))]] lb) (a7:lb[0]? = some pv)
  (K:∀k ds F U W vs,(r.map fun a=>[ST (enc i a)])[k]? = some ds->J k F U W->Vals F W ds vs ->
   YieldAt Fence.wide 0 P ly vs W fun e W'=>∃F' U',Kept F U W F' U' W'/\((e=.returned (.bool true)/\J (k+1) F' U' W')\/(e=.returned (.bool false)/\Jx F' U' W')))
  {cb:Code} (a8:bD P cb=some (ableL (aB i) so ti tb gm z)):∀(m k it:Nat) (q:List (TT i)) (F U:Nat->Prop) (W:World) (g:Act),k+m=l.length->Ez st (fun x=>metf x l) (l.drop k)=some q->r.drop it=q->it≤r.length->J it F U W ->
   ed 26 [] (fun _=>none) F W (nk i l (.func (.yield ly) #[] #[]) pv k) g.tmps->g.defers=[]->Code.roundsIn Fence.wide 0 P cb (Exit.inBlock 0 (Dg J Jx r.length)) (m+1) g W:=by
 obtain ⟨c1,r1,rfl,h1,a9⟩:=wh a8
 obtain ⟨c2,r2,rfl,h2,bb⟩:=wh a9
 obtain ⟨c3,c4,rfl,h3,h4⟩:=wh bb
 obtain ⟨x8,cp,cv,rfl,bc,bd,be⟩:=K_ h2
 obtain ⟨j2,c0,rfl,c5,bh⟩:=GJ h3
 obtain ⟨d2,r3,rfl,bi,bk⟩:=wh bh
 obtain ⟨d3,d4,rfl,bl,bt⟩:=wh bk
 obtain ⟨c6,c7,c8,rfl,ad,bu,bv⟩:=K_ bt
 have:=Nv bd
 subst this
 have:=WF (i:=0) be
 subst this
 have:=inv_ret bu
 subst this
 have:=Nv bv
 subst this
 have tm:∀(x:Operand) (t:Nat),cf x=some (.t t)->x=.tmp t:=fun x t hx=>by
  cases x <;> simp [cf] at hx
  rw [hx]
 have:=tm _ _ bc
 subst this
 have:=tm _ _ ad
 subst this
 have ev:∀{al:AL} {Y:ar} {M:Nat->Option Nat} {F:Nat->Prop} {W:World} {a:Act} {t:Nat} {b:Bool},ed 26 Y M F W al a.tmps->lk t al=some (Abs.B b)->a.eval (.tmp t)=.bool b:=fun {al Y M F W a t b} A h=>by
  obtain ⟨v,g1,g2⟩:=A.2 t _ h
  have:=g2.ce
  subst this
  simp [Act.eval,g1]
 have O:lT P (fun _=>CW []):=fun _=>mh fun p hp=>by grind
 intro m
 induction m with
 | zero =>
  intro k it q F U W g hk s S Ow G A bw
  rw [roundsIn_succ]
  refine wpIn_seq (mn h1 fun ops hs u o=>?_)
  show wpOpsIn Fence.wide 0 P ops _ (List.range' 0 (ZX ti).length++[]) g W
  refine eL O o Vj (fun j ao G=>by simp_all) ?_ ((R _).rel _ _ _ G) A
  refine cj.op (dX (v:=.bool (decide ((k:Int)<l.length))) rfl rfl rfl rfl (X _ _) rfl) iq rfl (cj.nil ?_)
  intro a1 W1 M1 F1 b0 R1 A1 E1
  obtain ⟨j1,_⟩:=(R it).step G (fun b c h=>by simp at h) E1 R1
  refine ⟨wpIn_seq (wpIn_cond_false (by rw [ev A1 rfl]; simp_all) (wpIn_exit ?_)),by simp⟩
  have b1:q=[]:=by
   have:l.drop k=[]:=yB8 (by omega)
   rw [this] at s
   simpa [Ez] using s.symm
  subst b1
  have af:it=r.length:=by
   have:=Ig List.length S
   grind
  show Exit.inBlock 0 (Dg J Jx r.length) (.exit 0) a1 W1
  simp only [Exit.inBlock,if_true]
  exact ⟨.inl rfl,by simp_all,_,_,.inl (by rw [←af]; exact j1)⟩
 | succ m ih =>
  intro k it q F U W g hk s S Ow G A bw
  have b2:k<l.length:=by omega
  have b3:l.drop k=l[k]::l.drop (k+1):=yB9 b2
  rw [b3] at s
  generalize ha:l[k]=a at s
  rw [roundsIn_succ]
  refine wpIn_seq (mn h1 fun ops hs u o=>?_)
  show wpOpsIn Fence.wide 0 P ops _ (List.range' 0 (ZX ti).length++[]) g W
  refine eL O o Vj (fun j ao G=>by simp_all) ?_ ((R _).rel _ _ _ G) A
  refine cj.op (dX (v:=.bool (decide ((k:Int)<l.length))) rfl rfl rfl rfl (X _ _) rfl) iq rfl (cj.nil ?_)
  intro a1 W1 M1 F1 b0 R1 A1 E1
  obtain ⟨j1,o1⟩:=(R it).step G (fun b c h=>by simp at h) E1 R1
  refine ⟨wpIn_seq (wpIn_cond_true (by rw [ev A1 rfl]; simp_all) (wpIn_skip ?_)),by simp⟩
  refine wpIn_seq (wpIn_block (wpIn_seq (mn bi fun ops hs u o=>?_)))
  show wpOpsIn Fence.wide 0 P ops _ (List.range' 0 (able2 (aB i) z).length++[]) a1 W1
  refine eL O o Vj (fun j ao G=>by simp_all) ?_ R1 A1
  have b4:aD l (k:Int)=some a:=by
   unfold aD
   simp_all
  have E:((enc i a).map D.c).length=aB i:=by rw [vR,uU]
  have ak:uL (some (aB i)) ((enc i a).map D.c) 0=some (ST (enc i a)):=zE E
  have b5:(ST (enc i a)).cells? = some ((enc i a).map D.c):=by
   obtain ⟨h1,_⟩:=qh (v:=.agg (exp i a)) (xs:=exp i a) (by grind [fi,exp,Ns]) (dt.EA (.st i) a)
   rw [vj] at h1
   exact h1
  have cm:put z 0 ((enc i a).map D.c)=(enc i a).map D.c:=by
   grind [put]
  refine cj.op (Zf (l:=l) (f:=enc i) (k:=(k:Int)) rfl rfl b4 (uU i a)) iq rfl (cj.op (Fm rfl ak) iq rfl (cj.op (Nc (d1:=.ptr 0 0 (aB i)) (by simp_all) rfl) iq rfl (cj.eff (DQ (cs:=z) (xs:=(enc i a).map D.c) rfl (Qk rfl hz) rfl b5 ⟨E,by omega⟩ (show _=[Ob.cells ((enc i a).map D.c)] by simp_all)) iq rfl (cj.nil ?_))))
  intro a2 W2 M2 F2 co R2 A2 E2
  obtain ⟨b6,o2⟩:=(R it).step j1 o1 E2 R2
  refine ⟨wpIn_seq (able_r3 (k:=(k:Int)) (st:=st) (metf:=metf) (items:=r.map fun a=>[ST (enc i a)]) dG ax a0 aa hm R a6 ab a7 K bl R2 (A2.lks fun t d ht=>?_) (by simp_all) b6 o2 (fun L=>?_) fun b b7 c9=>?_),by simp⟩
  ·have:=mU ht
   simp only [nk,gy,LL,Nj,aU] at this
   rcases this with ⟨rfl,rfl⟩ | ⟨rfl,rfl⟩ | ⟨rfl,rfl⟩ | ⟨rfl,rfl⟩ | ⟨rfl,rfl⟩ | ⟨rfl,rfl⟩ <;> rfl
  ·simp only [Ez,L,yCs,if_true] at s
   cases b8:metf a l with
   | none=>simp_all
   | some b =>
    refine ⟨b,rfl,fun hb=>?_⟩
    rw [b8] at s
    simp only [aw] at s
    obtain ⟨T,an,e⟩:=c_.1 s
    simp only [hb,if_true,au] at e
    have:r[it]? = some a:=by
     have:=Ig (fun l:List (TT i)=>l[0]?) S
     grind
    simp_all
  ·
   intro F' U' W' A' b' b9 AA cg
   rcases cg with ⟨rfl,N⟩ | ⟨rfl,N⟩
   ·
    refine wpIn_cond_false (ev AA rfl) (wpIn_skip ?_)
    show Exit.inBlock j2 (Exit.then (c4.wpIn Fence.wide 0 P _) _) .normal A' W'
    show c4.wpIn Fence.wide 0 P _ A' W'
    refine mn h4 fun ops hs u o=>?_
    show wpOpsIn Fence.wide 0 P ops _ (List.range' 0 (able4 ti).length++[]) A' W'
    refine eL O o Vj (fun j ao G=>by rw [PL]; exact u j ao G) ?_ ((R _).rel _ _ _ N) AA
    have da:i64.wrap ((k:Int)+1)=(k:Int)+1:=by
     rw [IntKind.wrap_i64]; omega
    refine cj.op (dX (v:=.int .i64 (i64.wrap ((k:Int)+1))) rfl rfl rfl rfl (Z _) rfl) iq rfl (cj.op (Ay rfl) iq rfl (cj.nil ?_))
    intro a5 W5 M5 F5 db R5 A5 E5
    obtain ⟨j5,_⟩:=(R _).step N (fun b c h=>by simp at h) E5 R5
    have A6:ed 26 [] (fun _=>none) F5 W5 (nk i l (.func (.yield ly) #[] #[]) pv ((k+1:Nat):Int)) a5.tmps:=by
     refine A5.data fun t d ht=>?_
     have:=mU ht
     simp only [nk,gy,LL,Nj,aU] at this
     rcases this with ⟨rfl,rfl⟩ | ⟨rfl,rfl⟩ | ⟨rfl,rfl⟩ | ⟨rfl,rfl⟩ | ⟨rfl,rfl⟩
     ·refine ⟨?_,rfl⟩
      show some (D.c (C.lit (.int .i64 (i64.wrap ((k:Int)+1)))))=_
      grind
     all_goals exact ⟨rfl,rfl⟩
    refine ⟨?_,by simp⟩
    show Code.roundsIn Fence.wide 0 P _ _ (m+1) a5 W5
    have ch:∃T,Ez st (fun x=>metf x l) (l.drop (k+1))=some T/\r.drop (if b=true then it+1 else it)=T/\(if b=true then it+1 else it)≤r.length:=by
     by_cases L:st a=1
     ·simp only [Ez,L,yCs,if_true] at s
      rw [b7 L] at s
      simp only [aw] at s
      obtain ⟨T,an,e⟩:=c_.1 s
      refine ⟨T,an,?_⟩
      cases b with
      | true =>
       simp only [if_true,au] at e ⊢
       have h0:r.drop it=a::T:=by grind
       have av:it<r.length:=by
        grind
       refine ⟨?_,av⟩
       have:=Ig (List.drop 1) h0
       simpa using this
      | false =>
       grind
     ·have hf:(st a == 1)=false:=by grind
      simp only [Ez,hf,b_,cw] at s
      grind
    grind
   ·
    refine wpIn_cond_true (ev AA rfl) (wpIn_ret ?_)
    show Dg J Jx r.length .ret A' W'
    exact ⟨.inr rfl,b9,_,_,.inr N⟩
theorem able_ok{g:Nat}{fn:Func}{met:TT i->List (TT i)->Option Bool}(dG:P.follows .mixedOrders=true)(hg:P.funcs[g]? = some fn)(s:il P fn true=some (ableA (aB i) so ti tb gm z))(hm:bJ P gm ⟨[.st i,.c (.sl i)],[.c .bool],λa=>met a.1 a.2.1⟩)(hz:z.length=aB i)(aa:∀a,(enc i a)[so]? = some (.lit (.int .i64 (st a))))
  (ab:∀x y:Int,gR P .lss ti (.tmp 7) (.tmp 6) (.int .i64 x) (.int .i64 y)=some (.bool (decide (x<y))))
  (ad:∀x:Int,gR P .eql ti (.tmp 12) (.const (.int .i64 1)) (.int .i64 x) (.int .i64 1)=some (.bool (x == 1)))
  (A:∀x:Int,gR P .add ti (.tmp 7) (.const (.int .i64 1)) (.int .i64 x) (.int .i64 1)=some (.int .i64 (i64.wrap (x+1)))) (E:∀b:Bool,fE P (Op.unary .not (.bool b))=some (.bool (!b))) :
  YQ P g ⟨[.c (.sl i)],[.c (.sl i)],λa=>Xt st (λx=>met x a.1) a.1⟩:=by
 intro l r hr;change Xt st (λx=>met x l) l=some r at hr;unfold Xt at hr;split at hr
 rotate_left
 ·grind
 rename_i k;have k:=CH k;unfold il at s;split at s
 rotate_left
 ·grind
 rename_i c hb;split at s
 rotate_left
 ·grind
 rename_i ac rs af ak;simp only[ableA,au,kP.mk.injEq] at s;obtain ⟨_,bd,rfl,rfl,_⟩:=s;intro ly B lb J Jx W F U X G o m h0;obtain ⟨K,an⟩:=o 0 F U W h0;have K:lb.size=1:=K;obtain ⟨pv,L⟩:∃pv,lb[0]? = some pv:=⟨_,qB (by omega)⟩;obtain ⟨c',av,be,T,hh,hl,hx⟩:=an 0 _ pv rfl L;refine callsIn_wide.1 (callsIn_of_wp_marks (F:=Fence.wide) (n:=0) hg hb trivial ?_ rfl);refine wpIn_mono (Q:=Dg J Jx r.length) ?_ λe a W' N=>?_
 rotate_left
 ·obtain ⟨he,hd,F',Z,ax⟩:=N;have R':Rel [] (λ_=>none) F' W':=ax.elim (λh=>(X _).rel _ _ _ h) λh=>G.rel _ _ _ h;have E':dB [] (λ_=>none) F' W' (List.replicate a.tmps.size D.any) a.tmps:=⟨by simp,λi d v g1 g2=>by
   have:d=.any:=by grind
   subst this;exact .any v⟩
  obtain ⟨v,hv,_⟩:=js (P:=P) (a:=a) R' E' ak (ds:=[]) rfl;have fin:LeavesInM Fence.wide 0 P fn a.tmps (λe W'=>(∃v,e=.returned v)/\∃F' Z,J (r.map λa=>[ST (enc i a)]).length F' Z W'\/Jx F' Z W') a.defers .returning W':=by rw[hd];exact ⟨v,hv,⟨v,rfl⟩,F',Z,by simp_all⟩
  rcases he with rfl | rfl
  ·exact fin
  ·exact fin
 obtain ⟨c0,bh,rfl,a0,R⟩:=wh af;obtain ⟨j0,cl,rfl,bi,a2⟩:=GJ R;obtain ⟨cb,rfl,a5⟩:=ZM a2;have:j0=0:=by omega
 subst this;have O:lT P (λ_=>CW []):=λ_=>mh λp hp=>by grind
 have R0:=(X 0).rel _ _ _ h0;have A0:ed 26 [] (λ_=>none) F W [(0,.c (.lit (.func (.yield ly) #[] #[]))),(1,.c (.lit pv))] ((#[Value.func (.yield ly) #[] #[]]++lb)++Array.replicate (fn.ntmps-(#[Value.func (.yield ly) #[] #[]]++lb).size) undef):=by
  refine ⟨by simp_all,λt d ht=>?_⟩;have:=mU ht;simp only[gy,LL,Nj,aU] at this;rcases this with ⟨rfl,rfl⟩ | ⟨rfl,rfl⟩
  ·refine ⟨_,?_,.c (.lit _)⟩
   simp_all
  ·refine ⟨pv,?_,.c (.lit _)⟩
   simp_all
 refine wpIn_seq (mn a0 λops hs q a6=>?_);obtain ⟨o0,a7,S⟩:=q 0 _ rfl;obtain ⟨v1,a8,a9⟩:=A0.2 1 _ rfl;have:=a9.ce;subst this;subst av;show wpOpsIn Fence.wide 0 P ops _ (0::(List.range' 1 2++[])) _ W;refine Hd a7 S R0.gl A0.de.1 rfl a8 hh (by omega) (λu hu=>hx 0 _ u rfl hu) λv hv=>?_;have A1:=ed.put (a:={ tmps:=(#[Value.func (.yield ly) #[] #[]]++lb)++Array.replicate (fn.ntmps-(#[Value.func (.yield ly) #[] #[]]++lb).size) undef,defers:=[] }) A0 (t:=5) (d:=.c (.cJ false (l.map (enc i)))) (by omega) (.c hv);refine eL (os:=[⟨some 6,.len (.t 5),none⟩,⟨some 7,.AO (.k (.c (.lit (.int .i64 0)))),none⟩]) O a6 Vj (BC q λj hj=>?_) ?_ R0 A1
 ·have:j=0\/j=1:=by simp at hj;omega
  rcases this with rfl | rfl <;> rfl
 refine cj.op (op_len (l:=l) (f:=enc i) rfl) iq rfl (cj.op (Ay rfl) iq rfl (cj.nil ?_));intro a1 W1 M1 F1 bb R1 bc E1;obtain ⟨j1,_⟩:=(X 0).step h0 (λb c h=>by simp at h) E1 R1;refine ⟨?_,by simp⟩;show (Code.block 0 (Code.loop cb)).wpIn Fence.wide 0 P _ a1 W1;refine wpIn_block (wpIn_loop_rounds (l.length+1) (MO (metf:=met) (hm:=hm) dG hz aa ab ad A E X G k o L m a5 l.length 0 0 r F1 _ W1 a1 (by omega) (by simp_all) rfl (Qf _) j1 (bc.data λt d ht=>?_) (by rw[bb];rfl)));have:=mU ht;simp only[nk,gy,LL,Nj,aU] at this;rcases this with ⟨rfl,rfl⟩ | ⟨rfl,rfl⟩ | ⟨rfl,rfl⟩ | ⟨rfl,rfl⟩ | ⟨rfl,rfl⟩ <;> exact ⟨rfl,rfl⟩
end
end
end Go.Abs
end
section
set_option linter.unusedVariables false
set_option linter.unusedSimpArgs false
namespace Go.Abs
open Go.Proofs Go.Shelf Go.RowKit Go.Lib
variable[Gl]{P:Program}{ρ:Ren}
def GF{w:World}{o:Obj}{r:Nat}(h:r<w.heap.size):(w.alloc o).heap[r]? = w.heap[r]?:=by
 show (w.heap.push o)[r]? = w.heap[r]?
 grind
theorem Mh{w:World}{b j:Nat}{arr:Array Value}{T:TypeId}(h:w.heap[b]? = some (.cells arr T (0,0))):w.cell? ⟨b,j,none⟩=arr[j]?:=by simp[World.cell?,h]
def Se{w:World}{b j:Nat}{arr:Array Value}{T:TypeId}(h:w.heap[b]? = some (.cells arr T (0,0))):w.frozen? ⟨b,j,none⟩=false:=by simp[World.frozen?,h]
def Tk{w:World}{b:Nat}{arr:Array Value}{T:TypeId}(h:w.heap[b]? = some (.cells arr T (0,0))):w.shape? b=some (T,arr.size):=by simp[World.shape?,h]
def nY(w:World)(t x ty g:TypeId)(b o d k m so e p es:Nat)(arr q:Array Value)(T y:TypeId)(cs:List Value)
  (A:P.underlying t=some (.slice g)) (hs:∀w,(Go.sizeOf g).run P w=.ok es w) (E:cs.length=Nat.min e d * es) (hb:w.heap[b]? = some (.cells arr T (0,0))) (r:w.heap[m]? = some (.cells q y (0,0)))
  (u:∀j v,cs[j]? = some v->q[so+j]? = some v) (hl:o+cs.length<=arr.size) (G:∀v∈cs,v.oneCell'=true) :
  (Builtin.copy_ #[t,x] ty #[.slice (some ⟨b,o,none⟩) d k,.slice (some ⟨m,so,none⟩) e p]).run P w=.ok (goInt (Nat.min e d)) (cQ w b (.cells (cU arr o cs) T (0,0))):=by
 have hl:=run_loadCells_list (P:=P) w ⟨m,so,none⟩ cs (λj v h=>by rw[show (⟨m,so,none⟩:Addr).add j=⟨m,so+j,none⟩ from by simp[Addr.add],Mh r];simp_all);have s:=fP P T b cs o w arr hb G (by omega);simp[Builtin.copy_,run_underlying A,Builtin.lenOf,Builtin.firstCells,hs,<-E,hl,s]
structure KV (P:Program) (ρ:Ren) (es by':Nat) (nm:String) (z:Value):Prop where
 mixed:P.follows .mixedOrders=true
 f22:P.funcs[ρ.f 22]? = some { Body2.n22 ρ with name:=nm }
 ov:∀args w,(callFunc (ρ.f 29) args).run P w=((Extern.SlicesOverlaps.overlaps #[ρ.t 24,ρ.t 24] #[ρ.t 4] args).run P w).andThen λv w'=>.ok (.value v) w'
 t0:P.underlying (ρ.t 0)=some (TypeDesc.tuple #[])
 t3:P.underlying (ρ.t 3)=some (TypeDesc.int IntKind.i64)
 t4:P.underlying (ρ.t 4)=some (TypeDesc.bool)
 a3:∀w,(isAgg (ρ.t 3)).run P w=.ok false w
 z3:∀w,(Go.sizeOf (ρ.t 3)).run P w=.ok 1 w
 a4:∀w,(isAgg (ρ.t 4)).run P w=.ok false w
 z4:∀w,(Go.sizeOf (ρ.t 4)).run P w=.ok 1 w
 z9:∀w,(Go.sizeOf (ρ.t 9)).run P w=.ok es w
 v9:∀w,(zeroValue (ρ.t 9)).run P w=.ok z w
 t24:P.underlying (ρ.t 24)=some (TypeDesc.slice (ρ.t 9))
 a24:∀w,(isAgg (ρ.t 24)).run P w=.ok false w
 z24:∀w,(Go.sizeOf (ρ.t 24)).run P w=.ok 1 w
 v24:∀w,(zeroValue (ρ.t 24)).run P w=.ok (Value.slice none 0 0) w
 i9:(P.info? (ρ.t 9)).map (λi=>(i.zero,i.size,i.bytes))=some (some z,es,by')
set_option maxHeartbeats 4000000 in
set_option maxRecDepth 100000 in
def Va{es Z:Nat}{nm:String}{z:Value}(L:KV P ρ es Z nm z)(b n c i k m s:Nat)(arr d:Array Value)(T S:TypeId)(w:World)(hi:i<n)(hm:0<m)(aa:0<es)(p:n+m≤c)(a9:n+m≤2000000)
  (U:w.heap[b]? = some (.cells arr T (0,0))) (X:w.heap[k]? = some (.cells d S (0,0))) (t:k≠b) (ab:c * es≤arr.size) (u:m * es≤d.size)
  (h1:∀j v,j<n * es->arr[j]? = some v->v.oneCell'=true) (x:∀j v,j<m * es->d[j]? = some v->v.oneCell'=true) :
  Calls P (ρ.f 22) #[.slice (some ⟨b,0,none⟩) n c,.int .i64 i,.slice (some ⟨k,0,none⟩) m s] w fun e w'=>
   e=.returned (.slice (some ⟨b,0,none⟩) (n+m) c)/\w'=cQ (cQ w.drew b (.cells (cU arr ((i+m) * es) ((arr.toList.take (n * es)).drop (i * es))) T (0,0))) b (.cells (cU (cU arr ((i+m) * es) ((arr.toList.take (n * es)).drop (i * es))) (i * es) (d.toList.take (m * es))) T (0,0)):=by
 have t0:=L.t0; have t3:=L.t3; have t4:=L.t4; have bb:=L.t24; have a3:=L.a3; have z3:=L.z3; have a4:=L.a4; have z4:=L.z4; have z9:=L.z9; have v9:=L.v9; have bc:=L.a24; have bd:=L.z24; have be:=L.v24
 have u0:=run_underlying L.t0; have u3:=run_underlying L.t3; have u4:=run_underlying L.t4; have bh:=run_underlying L.t24
 have ad:=L.mixed
 have bi:¬((m:Int)=0):=by omega
 have bk:¬((i:Int)=(n:Int)):=by omega
 have bl:i64.wrap ((i:Int)+(m:Int))=(i:Int)+(m:Int):=by rw [IntKind.wrap_i64]; omega
 have bt:(0:Int)≤(i:Int)+(m:Int):=by omega
 have af:i≤n:=by omega
 have bu:((i:Int)+(m:Int)).toNat=i+m:=by omega
 have bv:¬(c=i+m):=by omega
 have bw:(i:Int)≤(n:Int)+(m:Int):=by omega
 have b0:¬(c=i):=by omega
 have ak:n * es≤c * es:=HT _ (by omega)
 have an:(n+m) * es≤c * es:=HT _ p
 have av:(n+m) * es=n * es+m * es:=OI ..
 have ax:(i+m) * es=i * es+m * es:=OI ..
 have a0:i * es≤n * es:=HT _ af
 have a1:(n-i) * es=n * es-i * es:=Nat.sub_mul ..
 have a2:0<m * es:=Nat.mul_pos hm aa
 have a5:∀lb cb,(callFunc (ρ.f 29) #[.slice (some ⟨k,0,none⟩) m s,.slice (some ⟨b,(i+m) * es,none⟩) lb cb]).run P w=.ok (.value (.bool false)) w:=fun lb cb=>by
  rw [L.ov,Lib.run_overlaps_apart w (ρ.t 24) (ρ.t 4) (ρ.t 9) L.t24 es L.z9 ⟨k,0,none⟩ ⟨b,(i+m) * es,none⟩ m s lb cb t S T d.size arr.size (Tk X) (Tk U) (by omega) (Se X) (Se X)]
  rfl
 obtain ⟨h,y⟩:∃h,h=(arr.toList.take (n * es)).drop (i * es):=⟨_,rfl⟩
 obtain ⟨A,E⟩:∃A,A=d.toList.take (m * es):=⟨_,rfl⟩
 have a6:h.length=(n-i) * es:=by grind
 have a7:A.length=m * es:=by simp_all
 rw [←y,←E]
 have o:∀ty q sc,(Builtin.copy_ #[(ρ.t 24),(ρ.t 24)] ty #[.slice (some ⟨b,(i+m) * es,none⟩) (n+m-(i+m)) q,.slice (some ⟨b,i * es,none⟩) (n+m-i) sc]).run P w.drew=.ok (goInt (Nat.min (n+m-i) (n+m-(i+m)))) (cQ w.drew b (.cells (cU arr ((i+m) * es) h) T (0,0))):=fun ty q sc=>
  nY w.drew _ _ ty (ρ.t 9) b ((i+m) * es) (n+m-(i+m)) q b (i * es) (n+m-i) sc es arr arr T T h L.t24 L.z9 (by grind) U U
   (fun j v G=>by
    grind) (by omega)
   (fun v g=>by
    rw [y] at g
    obtain ⟨j,G,e⟩:=iM (yBp g)
    simp only [BZ,yBl] at G
    exact h1 j v (by omega) (by grind))
 obtain ⟨K,r⟩:∃K,K=cQ w.drew b (.cells (cU arr ((i+m) * es) h) T (0,0)):=⟨_,rfl⟩
 have a8:b<w.heap.size:=(CK.1 U).1
 have N:K.heap[b]? = some (.cells (cU arr ((i+m) * es) h) T (0,0)):=by rw [r]; exact eU a8
 have O:K.heap[k]? = some (.cells d S (0,0)):=by rw [r,fZ t]; exact X
 have R:∀(W:World),W.heap=K.heap->∀ty q,(Builtin.copy_ #[(ρ.t 24),(ρ.t 24)] ty #[.slice (some ⟨b,i * es,none⟩) (n+m-i) q,.slice (some ⟨k,0,none⟩) m s]).run P W=.ok (goInt (Nat.min m (n+m-i))) (cQ W b (.cells (cU (cU arr ((i+m) * es) h) (i * es) A) T (0,0))):=fun W hW ty q=>
  nY W _ _ ty (ρ.t 9) b (i * es) (n+m-i) q k 0 m s es (cU arr ((i+m) * es) h) d T S A L.t24 L.z9 (by grind) (by simp_all) (by simp_all)
   (fun j v G=>by
    grind) (by grind [VR])
   (fun v g=>by
    rw [E] at g
    obtain ⟨j,G,e⟩:=iM g
    simp only [BZ,yBl] at G
    exact x j v (by omega) (by grind))
 rw [←r] at o ⊢
 clear ak an av ax a0 a1 a2 N O ab u h1 x a6 a7
 go_enter L.f22,Body2.n22_ntmps ρ
 go_wp2_with (simp only [a5])
 go_region_law_o (refine step_copy_runI rfl _ _ (ρ.t 24) (ρ.t 24) rfl _ _ (by simp [Act.eval,Act.put]) (by simp [Act.eval,Act.put]) (o _ _ _) ?_)
 go_wp2_with (at_builtin; refine wpList_copy_runI _ rfl _ _ (ρ.t 24) (ρ.t 24) rfl _ _ rfl rfl (R _ rfl _ _) ?_)
 go_ret
 simp_all
set_option maxHeartbeats 4000000 in
set_option maxRecDepth 100000 in
def Xp{es y:Nat}{nm:String}{z:Value}(L:KV P ρ es y nm z)(b n c i x m vc:Nat)(arr g:Array Value)(T Tv:TypeId)(w:World)(hi:i<n)(hm:0<m)(bu:0<es)(bv:n≤c)(t:c<n+m)(p:(n+m) * y≤140737488355328)(bw:n+m≤2000000)(b0:z.cells.size=es)
  (hh:w.heap[b]? = some (.cells arr T (0,0))) (hv:w.heap[x]? = some (.cells g Tv (0,0))) (af:c * es≤arr.size) (A:m * es≤g.size)
  (h1:∀j v,j<n * es->arr[j]? = some v->v.oneCell'=true) (ak:∀j v,j<m * es->g[j]? = some v->v.oneCell'=true) :
  Calls P (ρ.f 22) #[.slice (some ⟨b,0,none⟩) n c,.int .i64 i,.slice (some ⟨x,0,none⟩) m vc] w fun e w'=>∃G d,n+m≤G/\d.size=G * es/\(∀j,j<i * es->d[j]? = arr[j]?) /\
   e=.returned (.slice (some ⟨w.heap.size,0,none⟩) (n+m) G)/\w'=cQ (cQ (w.alloc (.cells d (ρ.t 9))).drew w.heap.size (.cells (cU d (i * es) (g.toList.take (m * es))) (ρ.t 9) (0,0))).drew w.heap.size (.cells (cU (cU d (i * es) (g.toList.take (m * es))) ((i+m) * es) ((arr.toList.take (n * es)).drop (i * es))) (ρ.t 9) (0,0)):=by
 have t0:=L.t0; have t3:=L.t3; have t4:=L.t4; have b1:=L.t24; have a3:=L.a3; have z3:=L.z3; have a4:=L.a4; have z4:=L.z4; have z9:=L.z9; have v9:=L.v9; have b2:=L.a24; have b3:=L.z24; have b4:=L.v24
 have u0:=run_underlying L.t0; have u3:=run_underlying L.t3; have u4:=run_underlying L.t4; have b5:=run_underlying L.t24
 have an:=L.mixed
 obtain ⟨i0,av,ax,E,K⟩:=info_parts L.i9
 have b6:¬((m:Int)=0):=by omega
 have b7:¬((i:Int)=(n:Int)):=by omega
 have b8:(c:Int)<(n:Int)+(m:Int):=by omega
 have b9:i64.wrap ((i:Int)+(m:Int))=(i:Int)+(m:Int):=by rw [IntKind.wrap_i64]; omega
 have cg:(0:Int)≤(i:Int)+(m:Int):=by omega
 have a0:i≤n:=by omega
 have ch:((i:Int)+(m:Int)).toNat=i+m:=by omega
 have ck:(i:Int)≤(n:Int):=by omega
 have a1:(n:Int)+(m:Int)-(i:Int)=((n+m-i:Nat):Int):=by omega
 have N:i+(n+m-i)=n+m:=by omega
 have a2:n * es≤c * es:=HT _ (by omega)
 have a5:(n+m) * es=n * es+m * es:=OI ..
 have a6:(i+m) * es=i * es+m * es:=OI ..
 have a7:i * es≤n * es:=HT _ a0
 have a8:(n-i) * es=n * es-i * es:=Nat.sub_mul ..
 have a9:(n+m-i) * es=(n+m) * es-i * es:=Nat.sub_mul ..
 obtain ⟨G,hG⟩:∃G,G=grownCap w (n+m) c (ρ.t 9):=⟨_,rfl⟩
 have O:n+m≤G:=by grind [Go.grownCap_ge]
 have bb:(n+m) * es≤G * es:=HT _ O
 have R:(G-(n+m)) * es=G * es-(n+m) * es:=Nat.sub_mul ..
 have q:(Builtin.firstCells i0.size i (.slice (some ⟨b,0,none⟩) i c)).run P w.drew=.ok (arr.toList.take (i * es)).toArray w.drew:=by
  rw [E]
  have hl:=run_loadCells_list (P:=P) w.drew ⟨b,0,none⟩ (arr.toList.take (i * es)) (fun j v h=>by
   grind [Go.Addr.add_lit,Mh,Go.World.drew])
  rw [show (arr.toList.take (i * es)).length=i * es from by grind] at hl
  exact hl
 obtain ⟨d,S⟩:∃d:Array Value,d=(arr.toList.take (i * es)).toArray++Builtin.zeroCells z.cells (n+m-i)++Builtin.zeroCells z.cells (G-(n+m)):=⟨_,rfl⟩
 have bc:d.size=G * es:=by
  grind [iu]
 have bd:∀j,j<i * es->d[j]? = arr[j]?:=fun j hj=>by
  grind
 have be:∀ty,(Builtin.append_ #[(ρ.t 24),(ρ.t 3)] ty #[.slice (some ⟨b,0,none⟩) i c,.int .i64 ((n:Int)+(m:Int)-(i:Int))]).run P w =
   .ok (.slice (some ⟨w.heap.size,0,none⟩) (n+m) G) (w.drew.alloc (.cells d (ρ.t 9))):=fun ty=>by
  have h:=Lib.run_append_grow_zeros w (ρ.t 24) (ρ.t 3) ty (ρ.t 9) i0 _ .i64 .i64 L.t24 L.t3 av ax (some ⟨b,0,none⟩) i c (arr.toList.take (i * es)) q (n+m-i) (by omega) (by omega) (by omega) (by omega)
   (by rw [K]; exact jk (HT _ (by omega)) (jk p (by omega))) (by rw [K,N]; exact growslice_fits t p)
  simp_all
 obtain ⟨U,X⟩:∃U,U=(arr.toList.take (n * es)).drop (i * es):=⟨_,rfl⟩
 obtain ⟨k,Z⟩:∃k,k=g.toList.take (m * es):=⟨_,rfl⟩
 have bh:U.length=(n-i) * es:=by grind
 have bi:k.length=m * es:=by simp_all
 have aa:b<w.heap.size:=(CK.1 hh).1
 have ab:x<w.heap.size:=(CK.1 hv).1
 obtain ⟨r,o⟩:∃r,r=(w.alloc (.cells d (ρ.t 9))).drew:=⟨_,rfl⟩
 have q1:r.heap[w.heap.size]? = some (.cells d (ρ.t 9) (0,0)):=by rw [o]; exact heap_alloc_new w _
 have q2:r.heap[x]? = some (.cells g Tv (0,0)):=by rw [o]; exact (GF ab).trans hv
 have q3:r.heap[b]? = some (.cells arr T (0,0)):=by rw [o]; exact (GF aa).trans hh
 have q4:w.heap.size<r.heap.size:=(CK.1 q1).1
 have ad:∀(W:World),W.heap=r.heap->∀ty u,(Builtin.copy_ #[(ρ.t 24),(ρ.t 24)] ty #[.slice (some ⟨w.heap.size,i * es,none⟩) (n+m-i) u,.slice (some ⟨x,0,none⟩) m vc]).run P W=.ok (goInt (Nat.min m (n+m-i))) (cQ W w.heap.size (.cells (cU d (i * es) k) (ρ.t 9) (0,0))):=fun W hW ty u=>
  nY W _ _ ty (ρ.t 9) w.heap.size (i * es) (n+m-i) u x 0 m vc es d g (ρ.t 9) Tv k L.t24 L.z9 (by grind) (by simp_all) (by simp_all)
   (fun j v hj=>by
    grind) (by omega)
   (fun v bk=>by
    grind [List.getElem_of_mem])
 have s:∀(W:World),W.heap=(cQ r w.heap.size (.cells (cU d (i * es) k) (ρ.t 9) (0,0))).heap->∀ty u sc,(Builtin.copy_ #[(ρ.t 24),(ρ.t 24)] ty #[.slice (some ⟨w.heap.size,(i+m) * es,none⟩) (n+m-(i+m)) u,.slice (some ⟨b,i * es,none⟩) (n-i) sc]).run P W=.ok (goInt (Nat.min (n-i) (n+m-(i+m)))) (cQ W w.heap.size (.cells (cU (cU d (i * es) k) ((i+m) * es) U) (ρ.t 9) (0,0))):=fun W hW ty u sc=>
  nY W _ _ ty (ρ.t 9) w.heap.size ((i+m) * es) (n+m-(i+m)) u b (i * es) (n-i) sc es (cU d (i * es) k) arr (ρ.t 9) T U L.t24 L.z9 (by grind) (by grind [eU]) (by grind [fZ])
   (fun j v hj=>by
    grind) (by grind [VR])
   (fun v bk=>by
    grind [List.getElem_of_mem])
 have bl:G≤9223372036854775807:=by
  grind [Go.grownCap_le_maxLen,Go.maxLen]
 have cm:¬(G=i):=by omega
 have bt:¬(G=i+m):=by omega
 have co:¬(c=i):=by omega
 rw [←X,←Z]
 clear a2 a5 a6 a7 a8 a9 bb R q1 q2 q3 q4 af A h1 ak bh bi a1 N q S hG aa ab X Z
 subst o
 have hF:((cQ (w.alloc (.cells d (ρ.t 9))).drew w.heap.size (.cells (cU d (i * es) k) (ρ.t 9) (0,0))).drew).heap=(cQ (w.alloc (.cells d (ρ.t 9))).drew w.heap.size (.cells (cU d (i * es) k) (ρ.t 9) (0,0))).heap:=rfl
 go_enter L.f22,Body2.n22_ntmps ρ
 go_wp2_with (first
  | (at_builtin; refine Lib.wpList_append_run _ rfl _ _ _ _ rfl _ _ rfl rfl _ _ (be _) ?_)
  | (at_builtin; refine wpList_copy_runI _ rfl _ _ (ρ.t 24) (ρ.t 24) rfl _ _ rfl rfl (ad _ rfl _ _) ?_)
  | (at_builtin; refine wpList_copy_runI _ rfl _ _ (ρ.t 24) (ρ.t 24) rfl _ _ rfl rfl (s _ rfl _ _ _) ?_))
 go_region_law_o (refine step_copy_runI rfl _ _ (ρ.t 24) (ρ.t 24) rfl _ _ (by simp [Act.eval,Act.put]) (by simp [Act.eval,Act.put]) (s _ hF _ _ _) ?_)
 go_wp2
 go_ret
 exact ⟨G,d,O,bc,bd,rfl,rfl⟩
end Go.Abs
end
section
namespace Go.Abs
open Go.Proofs Go.Shelf
noncomputable section
section
variable[Gl]{P:Program}{ρ:Ren}{Y:ar}{M:Nat->Option Nat}{Fz:Nat->Prop}{w:World}
def Vu{o r:Array Value}{n m k es:Nat}{arr:Array Value}{e p:List D}(hk:k<=n)(t:e.length=n * es)(q:p.length=m * es)
  (A:∀j,j<k * es->arr[j]? = o[j]?) (u:∀j,j<m * es->arr[k * es+j]? = r[j]?) (x:∀j,k * es<=j->j<n * es->arr[j+m * es]? = o[j]?)
  (Q:D->Value->Prop) (E:∀(i:Nat) d v,e[i]? = some d->o[i]? = some v->Q d v) (G:∀(i:Nat) d v,p[i]? = some d->r[i]? = some v->Q d v) :
  ∀(i:Nat) d v,(e.take (k * es)++p++e.drop (k * es))[i]? = some d->arr[i]? = some v->Q d v:=λi d v g K=>by
 have L:k * es<=n * es:=HT _ hk;have s:(e.take (k * es)).length=k * es:=by simp_all
 by_cases h:i<k * es
 ·grind
 ·by_cases N:i<k * es+m * es
  ·rw[FF (by simp_all),Np (by omega),s] at g;have:=u (i-k * es) (by omega)
   grind
  ·rw[Np (by simp_all),yBQ] at g;simp only[zJ,s,q] at g;have y:=(fq.1 g).1;have:=x (k * es+(i-(k * es+m * es))) (by omega) (by omega)
   grind
def Rg{c:Nat}{o o':Obj}:(cQ (cQ w c o) c o').heap=(cQ w c o').heap:=by
 simp only[cQ]
 simp_all
def QH{o o':Obj}:(cQ (w.alloc o) w.heap.size o').heap=(w.alloc o').heap:=by
 show (w.heap.push o).setIfInBounds w.heap.size o'=w.heap.push o'
 grind
end
section
variable[Gl][σ:Ty]{P:Program}{ρ:Ren}{α:Type}{f:α->List C}{es:Nat}
def flat_ins(d:∀a,(f a).length=es){l v:List α}{k:Nat}(hk:k<=l.length):((l.take k++v++l.drop k).flatMap f).map D.c=((l.flatMap f).map D.c).take (k * es)++(v.flatMap f).map D.c++((l.flatMap f).map D.c).drop (k * es):=by
 have e:(l.flatMap f).map D.c=((l.take k).flatMap f).map D.c++((l.drop k).flatMap f).map D.c:=by grind [List.take_append_drop]
 grind [ib,List.length_take]
def Qp{ax:Nat}{nm:String}{z:Value}(L:KV P ρ es ax nm z)(bc:z.cells.size=es)(Z:0<es)(bd:ax<=1000)(hf:∀a,(f a).length=es){l v:List α}{k:Nat}(hk:k<l.length)(hm:0<v.length)(a0:l.length+v.length<=1000000) :
  Ok P (ρ.f 22) [OS es 0 l.length,.c (.lit (.int .i64 (k:Int))),OS es 1 v.length] [OB f l,OB f v] (OS es 0 (l.take k++v++l.drop k).length) [OB f (l.take k++v++l.drop k),OB f v]:=by
 intro M Fz w vs R hs hv;have be:vs.size=3:=hs;obtain ⟨v0,v1,v2,rfl⟩:∃v0 v1 v2,vs=#[v0,v1,v2]:=by
  obtain ⟨xs⟩:=vs
  match xs,be with
  |[a,b,c],_=>simp_all
 have g0:=hv 0 _ v0 rfl rfl;have g1:=(hv 1 _ v1 rfl rfl).ce;have g2:=hv 2 _ v2 rfl rfl;subst g1;have u:([OB f l,OB f v]:ar)[0]? = some (.cells ((l.flatMap f).map D.c)):=rfl;have a1:([OB f l,OB f v]:ar)[1]? = some (.cells ((v.flatMap f).map D.c)):=rfl;have L0:((l.flatMap f).map D.c).length=l.length * es:=by rw[vR,ib hf]
 have L1:((v.flatMap f).map D.c).length=v.length * es:=by rw[vR,ib hf]
 have nn:(l.take k++v++l.drop k).length=l.length+v.length:=by grind
 have b2:k * es<l.length * es:=yCh hk Z;have b3:(l.length+v.length) * es=l.length * es+v.length * es:=OI ..;have b4:0<v.length * es:=Nat.mul_pos hm Z;have b5:(k+v.length) * es=k * es+v.length * es:=OI ..;rcases g0.fU (Qk u L0) with ⟨_,e,_⟩ | ⟨c,o,cap,m,T,hM,rfl,⟨bh,b6⟩,ho,hh,b1,_⟩
 ·omega
 rcases g2.fU (Qk a1 L1) with ⟨_,e,_⟩ | ⟨cv,ov,ab,p,Tv,a2,rfl,⟨b7,b8⟩,b9,af,bi,_⟩
 ·omega
 have cg:∀x y:Nat,0<x->x<=y->y≠0:=λx y h h'=>by omega
 obtain rfl:o=0:=by omega
 obtain rfl:ov=0:=by omega
 obtain ⟨N,T',ak,_,a5⟩:=R.row hM u;rw[hh] at ak;simp only[au,Obj.cells.injEq,NT] at ak;obtain ⟨rfl,rfl⟩:=ak;obtain ⟨bk,ch,O,_,a6⟩:=R.row a2 a1;rw[af] at O;simp only[au,Obj.cells.injEq,NT] at O;obtain ⟨rfl,rfl⟩:=O;have bl:cv≠c:=λe=>by have:=R.inj 1 0 c (e▸a2) hM;omega
 have o1:∀j x,j<l.length * es->m[j]? = some x->x.oneCell'=true:=λj x hj hx=>by grind
 have o2:∀j x,j<v.length * es->p[j]? = some x->x.oneCell'=true:=λj x hj hx=>by grind
 have S:cap * es<=m.size:=by omega
 have t:v.length * es<=p.size:=by omega
 have hS:=λh:l.length+v.length<=cap=>Va L c l.length cap k cv v.length ab m p T Tv w hk hm Z h (by omega) hh af bl S t o1 o2;have hG:=λh:cap<l.length+v.length=>Xp L c l.length cap k cv v.length ab m p T Tv w hk hm Z bh h (jk (yC3 a0 bd) (by omega)) (by omega) bc hh af S t o1 o2;have a7:((m.toList.take (l.length * es)).drop (k * es)).length=l.length * es-k * es:=by grind
 have a8:(p.toList.take (v.length * es)).length=v.length * es:=by grind
 have ck:∀j,k * es<=j->j<l.length * es->((m.toList.take (l.length * es)).drop (k * es))[j-k * es]? = m[j]?:=λj h h'=>by rw[yBQ,show k * es+(j-k * es)=j by omega,List.getElem?_take,if_pos h'];simp
 have cm:∀j,j<v.length * es->(p.toList.take (v.length * es))[j]? = p[j]?:=λj h=>by grind
 generalize (m.toList.take (l.length * es)).drop (k * es)=CS at *;generalize p.toList.take (v.length * es)=VS at *;have fin:=flat_ins hf (l:=l) (v:=v) (k:=k) (by omega);have Lf:(((l.take k++v++l.drop k).flatMap f).map D.c).length=(l.length+v.length) * es:=by grind
 have R1:Rel [OB f l,OB f v] M Fz w.drew:=R.heap rfl ⟨rfl,rfl,rfl⟩;have E1:bF [OB f l,OB f v] M Fz w [OB f l,OB f v] M Fz w.drew:=bF.heap R rfl ⟨rfl,rfl,rfl⟩;have bt:c<w.heap.size:=(CK.1 hh).1;have row:∀(A:Array Value)(M':Nat->Option Nat)(w':World),bF [OB f l,OB f v] M Fz w [OB f (l.take k++v++l.drop k),OB f v] M' Fz w'->(∀j,j<k * es->A[j]? = m[j]?)->(∀j,j<v.length * es->A[k * es+j]? = p[j]?)->(∀j,k * es<=j->j<l.length * es->A[j+v.length * es]? = m[j]?) ->
   ∀(i:Nat) d x,(((l.take k++v++l.drop k).flatMap f).map D.c)[i]? = some d->A[i]? = some x->V [OB f (l.take k++v++l.drop k),OB f v] M' Fz w' d x/\x.oneCell'=true:=λA M' w' E hA hB hC=>by
  rw[fin];exact Vu (by omega) L0 L1 hA hB hC (λd x=>V [OB f (l.take k++v++l.drop k),OB f v] M' Fz w' d x/\x.oneCell'=true) (λi d x h1 h2=>⟨(a5 i d x h1 h2).1.mono E,(a5 i d x h1 h2).2⟩) (λi d x h1 h2=>⟨(a6 i d x h1 h2).1.mono E,(a6 i d x h1 h2).2⟩)
 have aa:(Ob.cells ((l.flatMap f).map D.c)).sz<(OB f (l.take k++v++l.drop k)).sz:=by show ((l.flatMap f).map D.c).length<(((l.take k++v++l.drop k).flatMap f).map D.c).length;omega
 by_cases r:l.length+v.length<=cap
 ·refine (hS r).mono λe w' he=>?_;obtain ⟨rfl,rfl⟩:=he;have bu:(l.length+v.length) * es<=cap * es:=HT _ r;generalize an:cU m ((k+v.length) * es) CS=K;have bv:K.size=m.size:=by grind [VR]
  generalize av:cU K (k * es) VS=q;have bw:q.size=m.size:=by grind [VR]
  rw[Hc];have ad:∀U T1 fr,Obj.cells m T (0,0)=.cells U T1 fr->∃N,Obj.cells q T (0,0)=.cells N T1 fr/\N.size=U.size:=λU T1 fr h=>by grind
  have EV:=bF.yg (ob':=OB f (l.take k++v++l.drop k)) R1 hM u hh (yCx aa) ad;have a9:=E1.trans EV (cP _);have g:∀j,q[j]? = if k * es<=j/\j<k * es+v.length * es then VS[j-k * es]? else K[j]?:=λj=>by rw[<-av,cL (by omega),a8]
  have g':∀j,K[j]? = if (k+v.length) * es<=j/\j<(k+v.length) * es+(l.length * es-k * es) then CS[j-(k+v.length) * es]? else m[j]?:=λj=>by rw[<-an,cL (by omega),a7]
  have hr:=row q M _ a9 (λj hj=>by rw[g,if_neg (by omega),g',if_neg (by omega)]) (λj hj=>by rw[g,if_pos (by omega),yBJ];grind)
   (λj h h'=>by rw[g,if_neg (by omega),g',if_pos (by omega),show j+v.length * es-(k+v.length) * es=j-k * es by omega];grind)
  refine ⟨_,M,Fz,rfl,R1.yg hM u hh (yCx aa) ad ⟨q,T,rfl,by omega,hr⟩,?_,a9⟩;rw[nn];refine .sl _ _ _ (by simp) (OB f (l.take k++v++l.drop k)) rfl (by show _<=(((l.take k++v++l.drop k).flatMap f).map D.c).length;omega) (λ_=>.inr ⟨c,0,q,T,hM,rfl,rfl,⟨r,by omega⟩,.inl rfl,eU bt,by omega,by omega⟩)
 ·refine (hG (by omega)).mono λe w' he=>?_;obtain ⟨G,s,bb,co,b0,rfl,rfl⟩:=he;have bu:(l.length+v.length) * es<=G * es:=HT _ bb;generalize an:cU s (k * es) VS=K;have bv:K.size=s.size:=by grind [VR]
  generalize av:cU K ((k+v.length) * es) CS=q;have bw:q.size=s.size:=by grind [VR]
  have EV:=bF.move (o':=.cells q (ρ.t 9)) (ob':=OB f (l.take k++v++l.drop k)) R u aa;have X:(cQ (cQ (w.alloc (.cells s (ρ.t 9))).drew w.heap.size (.cells K (ρ.t 9) (0,0))).drew w.heap.size (.cells q (ρ.t 9) (0,0))).heap=(w.alloc (.cells q (ρ.t 9))).heap:=by have e1:(cQ (cQ (w.alloc (.cells s (ρ.t 9))).drew w.heap.size (.cells K (ρ.t 9) (0,0))).drew w.heap.size (.cells q (ρ.t 9) (0,0))).heap=(cQ (cQ (w.alloc (.cells s (ρ.t 9))) w.heap.size (.cells K (ρ.t 9) (0,0))) w.heap.size (.cells q (ρ.t 9) (0,0))).heap:=rfl;rw[e1,Rg,QH]
  have g:∀j,q[j]? = if (k+v.length) * es<=j/\j<(k+v.length) * es+(l.length * es-k * es) then CS[j-(k+v.length) * es]? else K[j]?:=λj=>by rw[<-av,cL (by omega),a7]
  have g':∀j,K[j]? = if k * es<=j/\j<k * es+v.length * es then VS[j-k * es]? else s[j]?:=λj=>by rw[<-an,cL (by omega),a8]
  have hr:=row q _ _ EV (λj hj=>by rw[g,if_neg (by omega),g',if_neg (by omega),b0 j hj]) (λj hj=>by rw[g,if_neg (by omega),g',if_pos (by omega),yBJ];grind)
   (λj h h'=>by rw[g,if_pos (by omega),show j+v.length * es-(k+v.length) * es=j-k * es by omega];grind)
  have RM:=R.move (o':=.cells q (ρ.t 9)) (ob':=OB f (l.take k++v++l.drop k)) u aa ⟨q,ρ.t 9,rfl,by omega,hr⟩;have cp:(w.alloc (.cells q (ρ.t 9))).os=w.os/\(w.alloc (.cells q (ρ.t 9))).tape=w.tape/\(w.alloc (.cells q (ρ.t 9))).output=w.output:=⟨rfl,rfl,rfl⟩;have RF:=RM.heap X ⟨rfl,rfl,rfl⟩;have EF:=EV.trans (bF.heap RM X ⟨rfl,rfl,rfl⟩) (cP _);refine ⟨_,_,Fz,rfl,RF,?_,?_⟩
  rotate_left
  ·exact EF
  rw[nn];refine .sl _ _ _ (by simp) (OB f (l.take k++v++l.drop k)) rfl (by show _<=(((l.take k++v++l.drop k).flatMap f).map D.c).length;omega) (λ_=>.inr ⟨w.heap.size,0,q,ρ.t 9,by simp[wV],rfl,rfl,⟨bb,by omega⟩,.inl rfl,?_,by omega,by omega⟩)
  grind [Go.heap_alloc_new]
end
end
end Go.Abs
end
section
namespace Go.Abs
noncomputable section
variable[Gl][σ:Ty]
theorem Ok.cut{P:Program}{g:FuncId}{ds:List D}{G X garb:List D}{k es sz:Nat}(h:Ok P g ds [.cells G] (.sl 0 0 k es sz) [.cells X])(hX:X.length=sz)(hk:k * es<=sz)(hd:∀d∈X.take (k * es),∃c,d=D.c c)(hg:sz<garb.length)(ad:G.length<=sz) :
  Ok P g ds [.cells G] (.sl 1 0 k es (k * es)) [.cells garb,.cells (X.take (k * es))]:=by
 intro M Fz w vs R hs hv;refine (h M Fz w vs R hs hv).mono λe w' he=>?_;obtain ⟨v,K,O,rfl,u,U,E⟩:=he;have af:∀c,K 0=some c->∀b,K b=some c->b=0:=λc h b hb=>u.inj b 0 c hb h;refine ⟨v,λb=>if b=1 then K 0 else none,O,rfl,⟨λb c hb=>?_,λb b' c hb ak=>?_,u.fz,u.gl⟩,?_,?_⟩
 ·split at hb
  ·rename_i e1;subst e1;obtain ⟨h1,ob,o,s,h3,h4⟩:=u.blk 0 c hb;simp only[xF,au] at s;subst s;obtain ⟨j,T,Z,hl,hx⟩:=h4;refine ⟨h1,.cells (X.take (k * es)),o,rfl,h3,j,T,Z,by grind,λi d v q1 q2=>?_⟩;obtain ⟨x,rfl⟩:=hd d (Av q1);have q3:X[i]? = some (.c x):=by
    grind
   obtain ⟨A,q5⟩:=hx i _ v q3 q2;refine ⟨?_,q5⟩;cases A with
   |c A=>exact .c A
  simp_all
 ·simp_all
 ·cases U with
  |sl a n cap aa ob s an ab=>
   simp only[xF,au] at s;subst s;refine .sl a n cap aa (.cells (X.take (k * es))) rfl (by grind [Ob.sz]) (λ_=>?_);rcases ab (by grind [Ob.sz]) with ⟨q1,q2,q3,A,q5,q6⟩ | ⟨c,o,j,T,hM,ha,hn,hl,Z,hh,hb,hz⟩
   ·simp_all
   ·exact .inr ⟨c,o,j,T,by grind,ha,hn,⟨hl.1,by omega⟩,Z,hh,hb,by omega⟩
 ·exact {
   size:=E.size
   frame:=E.frame
   lP:=λb c hb=>by
    split at hb
    ·exact E.lP 0 c hb
    simp_all
   fz:=E.fz
   nF:=E.nF
   qe:=E.qe
   keep:=λb ob hb=>by
    match b with
    |0=>simp only[xF,au] at hb;subst hb;exact ⟨.cells garb,rfl,by grind [Ob.sz],λe=>by grind [Ob.sz]⟩
    |b+1=>grind
   out:=E.out }
end
end Go.Abs
end
