/- DfwPh, DfwPx, DfwPi, DfwPj, DfwPk, DfwPw, DfwMv, DfwSc -/
import Derived.Test.YtidhdalhpjapaaaGreatDoorFwD
import Derived.ScopeJumps
set_option linter.all false
section
namespace Go.Abs
noncomputable section
variable[Gl][Y:Ty]
def ET(p:Nat):TA->Option (Nat×RV)
 |[]=>none
 |x::al=>if al.length=p then some x else ET p al
theorem ML{p:Nat}{y:Nat×RV}:∀{al:TA},ET p al=some y->p<al.length:=by
 intro al;induction al with
 |nil=>grind [ET]
 |cons x al ih=>grind [ET]
theorem yc{p:Nat}{y z:Nat×RV}{al:TA}(h:ET p al=some y):ET p (z::al)=some y:=by
 have:=ML h;simp only[ET]
 grind
theorem Xy{p:Nat}{y:Nat×RV}{al:TA}(h:ET p al=some y):∀(pre:TA),ET p (pre++al)=some y:=by
 intro pre;induction pre with
 |nil=>exact h
 |cons z pre ih=>exact yc ih
theorem Rr{t p:Nat}{x:RV}:∀{al:TA},dV t al=some (x,p)->ET p al=some (t,x):=by
 intro al;induction al with
 |nil=>grind [dV]
 |cons y al ih=>
  intro h;obtain ⟨s,z⟩:=y;simp only[dV] at h;split at h
  ·rename_i a;have:=cY a;subst this;simp only[aw,ba] at h;obtain ⟨rfl,rfl⟩:=h;simp only[ET,if_true]
  grind [yc]
def GW(al:TA)(U:TH):RV->Prop
 |.v x=>GV U x
 |.g c w p x=>(∃t,ET p al=some (t,.v (.c (.b c))))/\(c=w->GV U x)
theorem GW.mono{al:TA}{U U1:TH}(h:Ext U U1)(pre:TA){x:RV}(g:GW al U x):GW (pre++al) U1 x:=by
 cases x with
 |v x=>exact GV.mono h g
 |g c w p x=>exact ⟨let ⟨t,i⟩:=g.1;⟨t,Xy i pre⟩,λe=>(g.2 e).mono h⟩
structure Ref (al:TA) (U:TH) (alD:AL) (σD:aq):Prop where
 hh:RH U σD
 rg:∀t x p,dV t al=some (x,p)->∃d,lk t alD=some d/\RR x d/\GW al U x
def Dh(al:TA)(kn:Kn):Prop:=∀p b,Bb p kn=some b->∀t e,ET p al=some (t,.v (.c (.b e)))->e=b
variable{P:Program}{n:Nat}{alD:AL}{U U1:TH}{σD σD1:aq}{al:TA}{kn:Kn}{S:wj}
theorem Ref.set{t:Nat}{x:RV}{d:D}(i:Ref al U alD σD)(H:RH U1 σD1)(j:Ext U U1)(A:RR x d)(E:GW ((t,x)::al) U1 x):Ref ((t,x)::al) U1 ((t,d)::alD) σD1:={
 hh:=H
 rg:=λs y p h=>by
  simp only[dV] at h;simp only[lk];split at h
  ·simp_all
  ·rename_i o
   try rw[o]
   obtain ⟨u,h1,h2,z⟩:=i.rg s y p h;exact ⟨u,h1,h2,z.mono j [(t,x)]⟩ }
theorem Ref.heap(i:Ref al U alD σD)(H:RH U1 σD1)(j:Ext U U1):Ref al U1 alD σD1:={
 hh:=H
 rg:=λs y p h=>let ⟨o,h1,h2,h3⟩:=i.rg s y p h;⟨o,h1,h2,h3.mono j []⟩ }
theorem Dh.cons{z:Nat×RV}(h:Dh al kn)(i:∀p b,Bb p kn=some b->p<al.length):Dh (z::al) kn:=λp b hk t e j=>by
 refine h p b hk t e ?_;have:=i p b hk;simp only[ET] at j
 grind
def LX(al:TA)(kn:Kn):Prop:=∀p b,Bb p kn=some b->p<al.length
theorem LX.cons{z:Nat×RV}(h:LX al kn):LX (z::al) kn:=λp b hk=>by have:=h p b hk;grind
theorem Dh.add{p:Nat}{b:Bool}(h:Dh al kn)(j:∀t e,ET p al=some (t,.v (.c (.b e)))->e=b):Dh al ((p,b)::kn):=λq c hk t e i=>by
 simp only[Bb] at hk;split at hk
 ·grind [Nat.eq_of_beq_eq_true]
 ·exact h q c hk t e i
theorem LX.add{p:Nat}{b:Bool}(h:LX al kn)(i:p<al.length):LX al ((p,b)::kn):=λq c hk=>by
 simp only[Bb] at hk;split at hk
 ·simp_all
 ·exact h q c hk
theorem Uk{d:D}(h:d.low 0=true):RT (FE d) d/\GV U (FE d):=by
 unfold FE;split
 ·rename_i ds;exact ⟨⟨ds,rfl,aH.ds ds⟩,Ha h⟩
 ·exact ⟨.inr rfl,D.dJ (OL _) h⟩
theorem nX(z:Ref al U alD σD)(K:Dh al kn){a:Option (Nat×Bool)}(M:∀q w,a=some (q,w)->∀t e,ET q al=some (t,.v (.c (.b e)))->e=w):cV U alD (GX al kn a):=by
 intro x v h;cases x with
 |k d=>
  simp only[GX] at h;split at h
  ·rename_i A;simp only[aw] at h;subst h;exact ⟨d,rfl,(Uk (U:=U) A).1,(Uk A).2⟩
  simp_all
 |t s=>
  simp only[GX] at h;split at h
  ·rename_i y p l;simp only[aw] at h;subst h;obtain ⟨d,o,j,u⟩:=z.rg s _ p l;exact ⟨d,o,j,u⟩
  ·rename_i c w p y q l;split at h
   ·rename_i f;simp only[aw] at h;subst h;obtain ⟨d,o,j,u⟩:=z.rg s _ q l;obtain ⟨⟨t,E⟩,G⟩:=u;have i:c=w:=by
     unfold PU at f;split at f
     ·rename_i b L;have:=K p b L t c E
      simp_all
     ·split at f
      ·rename_i N O;simp only[bJ] at f;have T:=cY f.1
       grind
      simp_all
    simp only[RR,if_pos i] at j;exact ⟨d,o,j,G i⟩
   simp_all
  simp_all
theorem Fw{t p:Nat}{x:RV}(a:Ref al U alD σD)(h:dV t al=some (x,p)):∃d,lk t alD=some d/\RR x d:=let ⟨d,h1,h2,_⟩:=a.rg t x p h;⟨d,h1,h2⟩
theorem tGd_ok(L:Ref al U alD σD)(K:Dh al kn)(g:Option (Nat×Bool)):match tGd al kn g with
  |.PU=>Gd alD g true
  |.shut=>Gd alD g false
  |.sym e p w=>(∃t,ET p al=some (t,.v (.c (.b e))))/\(e=w->Gd alD g true)/\((!e)=w->Gd alD g false)
  |.spl e p=>∃t,ET p al=some (t,.v (.c (.b e)))
  |.QQ t x=>∃d,lk t alD=some d/\RT x d/\GV U x
  |.bad=>True:=by
 cases g with
 |none=>exact uB
 |some g=>
  obtain ⟨t,a⟩:=g;simp only[tGd];cases s:dV t al with
  |none=>trivial
  |some q=>
   obtain ⟨x,p⟩:=q;obtain ⟨d,h,i⟩:=Fw L s;cases x with
   |g c w u y=>
    dsimp only;obtain ⟨X,T,z,⟨M,j⟩,W⟩:=L.rg t _ p s;cases hk:Bb u kn with
    |none=>simp_all
    |some b=>
     dsimp only;by_cases l:(b == w)=true
     ·rw[if_pos l];have A:c=w:=by rw[K u b hk M c j];simp_all
      simp only[RR,if_pos A] at z
      simp_all
     ·rw[if_neg l];have:=K u b hk M c j;have E:¬c=w:=λe=>l (by simp_all);simp only[RR,if_neg E] at i
      grind [OK]
   |v y=>
    dsimp only;change RT y d at i;generalize f:gdB kn a p y=G;unfold gdB at f;split at f
    ·have:=RT.c1 (by simp) i;subst this;subst f;cases a
     ·exact Bk h rfl
     ·exact Bj h rfl
    ·have:=RT.c1 (by simp) i;subst this;subst f;cases a
     ·exact Bj h rfl
     ·exact Bk h rfl
    ·have:=RT.c1 (by simp) i;subst this;subst f;exact OK h
    ·rename_i e;have:=RT.c1 (by simp) i;subst this;have o:=Rr s;cases hk:Bb p kn with
     |none=>
      rw[hk] at f;subst f;refine ⟨⟨t,o⟩,λN=>Bj h N,λN=>Bk h ?_⟩
      simp_all
     |some b=>
      rw[hk] at f;dsimp only at f;have l:=K p b hk t e o;by_cases O:(b == a)=true
      ·rw[if_pos O] at f;subst f;exact Bj h (by simp_all)
      ·rw[if_neg O] at f;subst f;refine Bk h ?_
       try rw[l]
       cases b <;> cases a <;> simp_all
    grind
def Jf(a b:dG):Prop:=a.wr=b.wr/\a.dst=b.dst/\a.Zl=b.Zl/\a.lo=b.lo/\a.hi=b.hi/\(a.cat=0∨(a.cat=b.cat/\a.blk=b.blk))
theorem Jf.refl(a:dG):Jf a a:=⟨rfl,rfl,rfl,rfl,rfl,.inr ⟨rfl,rfl⟩⟩
theorem PP{a b:dG}(h:Jf a b){wr:List Nat}(hs:safe b wr=true):safe a wr=true:=by
 obtain ⟨_,_,_,_,_,h | ⟨e,f⟩⟩:=h
 ·simp[safe,h]
 grind [safe]
theorem CL{a b f i:dG}(h:Jf a b)(j:Jf f i)(hs:apart b i=true):apart a f=true:=by
 simp only[apart,bJ] at hs ⊢;obtain ⟨⟨⟨⟨o,p⟩,s⟩,u,v⟩,x,y⟩:=hs;have e:=h;have l:=j;obtain ⟨z,A,E,G,K,_⟩:=e;obtain ⟨f1,L,M,N,O,_⟩:=l
 grind [PP,outside]
theorem pK{b:List Nat}{as e:List dG}(h:aH Jf as e)(f:dR b e=true):dR b as=true:=by
 simp only[dR,gH,List.mem_range,dW] at f ⊢;intro j l i o;rw[h.len] at l;rcases f j l i o with p | p
 ·simp_all
 ·right;have get:∀q,q<e.length->Jf (as.getD q default) (e.getD q default):=by
   intro q s;obtain ⟨a,u,v⟩:=h.get' q _ (dB s)
   simp_all
  grind [CL]
theorem Qp{b f:List Nat}{as e:List dG}(h:aH Jf as e)(l:Ly b f e=true):Ly b f as=true:=by
 simp only[Ly,gH,List.mem_range,dW] at l ⊢;intro j o i p;rw[h.len] at o;rcases l j o i p with s | s
 ·simp_all
 ·right;have get:∀q,q<e.length->Jf (as.getD q default) (e.getD q default):=by
   intro q u;obtain ⟨a,v,x⟩:=h.get' q _ (dB u)
   simp_all
  grind [CL]
theorem dq.mono{orc:ig}{k:Nat}{os:List aM}{Q Q':AL->aq->List dG->Prop}(h:dq P orc k os n alD σD Q)(j:∀a s i,Q a s i->Q' a s i):dq P orc k os n alD σD Q':=by obtain ⟨a,s,i,o,u⟩:=h;exact ⟨a,s,i,o,j _ _ _ u⟩
theorem Uf(b:Ref al U alD σD){o:lg}(h:okT al o=true):Ec alD o=true:=by
 cases o with
 |load m x=>
  cases x with
  |k d=>rfl
  |t a=>grind [okT,Option.isSome_iff_exists,Fw,Ec,lx]
 |_=>rfl
variable{R:Type}
theorem Vb{b:aP->Option TV}{a:Nat}{o:lg}{k:KO R}{r:R}(j:cV U alD b)(h:gJ P S a o b U k=some r):Ec alD o=true/\wH alD o=VV b o:=by
 cases o with
 |load m x=>
  simp only[gJ] at h;cases e:b x with
  |none=>rw[e] at h;simp at h
  |some v=>
   obtain ⟨d,i,f,_⟩:=j x v e;refine ⟨by simp[Ec,i],?_⟩;simp only[wH,VV,i,e];cases v with
   |agg l=>obtain ⟨ds,rfl,_⟩:=f;rfl
   |aT l=>obtain ⟨ds,rfl,_⟩:=f;rfl
   |c y=>
    cases y with
    |any=>rw[e] at h;simp at h
    |d z=>have:=RT.c1 (by simp) f;subst this;cases d <;> rfl
    |_=>have:=RT.c1 (by simp) f;subst this;rfl
 |_=>exact ⟨rfl,rfl⟩
def ay(al:TA)(U:TH)(K:KS R)(r:R)(b:AL)(e:aq)(f:List dG):Prop:=
 ∃a h i,Ref a h b e/\(∃pre,a=pre++al)/\Ext U h/\aH Jf f i/\K a h i=some r
theorem ay.cons{al al1:TA}{U U1:TH}{K:KS R}{r:R}{j:AL}{o s:aq}{u:List dG}{i E:dG}{pre:TA}(h:ay al1 U1 (λx U' A=>K x U' (i::A)) r j o u)(Z:al1=pre++al)(H:RH U s)(G:Ext U U1)(L:Jf E i) :
  ay al U K r j o (E::u):=by
 obtain ⟨x,U',A,M,⟨z,rfl⟩,O,W,X⟩:=h;exact ⟨_,U',i::A,M,⟨z++pre,by simp_all⟩,Ext.trans H G O,.cons L W,X⟩
theorem YZ{e:Bool}{u v:TV}{f h:BX}(j:Ph u=some f)(l:Ph v=some h){d:D}(r:RT (if e then u else v) d):d=B (pk e f h):=by
 have b:∀{w:TV}{i:BX},Ph w=some i->RT w d->d=B i.val:=by
  intro w i a r;unfold Ph at a;split at a
  ·simp only[aw] at a;subst a;exact RT.c1 (by simp) r
  ·simp only[aw] at a;subst a;exact RT.c1 (by simp) r
  ·simp only[aw] at a;subst a;exact RT.c1 (by simp) r
  simp_all
 cases e
 ·have:=b l r;rw[this];cases f <;> cases h <;> simp[pk,BX.val]
 ·have:=b j r;rw[this];cases f <;> cases h <;> simp[pk,BX.val]
theorem Hx{U:TH}(c:Bool)(x y:BX):RT (pkV c x y) (B (pk c x y))/\GV U (pkV c x y):=by cases x <;> cases y <;> first | exact ⟨.inr rfl,True.intro⟩ | (cases c <;> exact ⟨.inr rfl,rfl⟩)
theorem tot_ok{o:lg}{a:aP->Option TV}{v:TV}(b:cV U alD a)(H:RH U σD)(e:qI o=true)(h:gJ (R:=TV) P S 0 o a U (λv _ _ _=>some v)=some v) :
  ∃d,dQ P (Gz (JK S)) n alD σD o d σD []/\RT v d/\GV U v:=by
 obtain ⟨f,U1,rs,wr,d,σD1,i,j,l,_,_,_,p,s⟩:=TO (n:=n) b H h
 grind
def xA:(cs:List CT)->qf cs->Option (Σ c:CT,dT c.bN)
 |[],_=>none
 |[c],x=>some ⟨c,x⟩
 |c :: d :: cs, x => match x with
  |.inl a=>some ⟨c,a⟩
  |.inr b=>xA (d::cs) b
theorem TQ{R:Type}{f:(c:CT)->dT c.bN->Option R}{r:R}:∀{cs:List CT}{x:qf cs},altK cs x f=some r->∃c a,xA cs x=some ⟨c,a⟩/\f c a=some r:=by
 intro cs;induction cs with
 |nil=>grind
 |cons c cs ih=>
  intro x h;cases cs with
  |nil=>exact ⟨c,x,rfl,h⟩
  |cons d cs=>
   cases x with
   |inl a=>exact ⟨c,a,rfl,h⟩
   |inr b=>obtain ⟨e,i,j,l⟩:=ih (x:=b) h;exact ⟨e,i,j,l⟩
def ExOk(g:KQ):Prop:=∀(i:CT)(e:FuncId)(f:List TV)(U:TH)(h:List TV)(U2:TH)(σD:aq)(ds:List D),g.exa i e f U=some (h,U2)->RH U σD->fo f ds->(∀v∈f,GV U v) ->
 bq g.P e=true/\∃r a,RH U2 a/\RT (yM h) r/\GV U2 (yM h)/\Ext U U2/\Ok g.P e ds σD r a/\(∀b,b<σD.length->a[b]? = σD[b]?)
def Tt(g:KQ):Prop:=∀(f:List CT)(h:FuncId)(i:List TV)(U:TH)(y:qf f)(e:CT)(x:dT e.bN)(j:List TV)(U2:TH)(σD:aq)(ds:List D),g.inl f h i U=some y->xA f y=some ⟨e,x⟩->sH e U x=some (j,U2)->RH U σD->fo i ds->(∀v∈i,GV U v) ->
 bq g.P h=true/\∃r a,RH U2 a/\RT (yM j) r/\GV U2 (yM j)/\Ext U U2/\Ok g.P h ds σD r a/\(∀b,b<σD.length->b∉e.pl.map PC.blk->a[b]? = σD[b]?)/\(e.pl.any PC.rs=false->jZ σD a (e.pl.map PC.blk)=true)
structure UI (g:KQ):Prop where
 one:Tt g
 two:ExOk g
theorem KU{b a:ig}:∀(os:List aM)(k:Nat)(e:List D)(U:aq),(∀o∈os,b o.dst=a o.dst)->kH P b k os e U=kH P a k os e U:=by
 intro os;induction os with
 |nil=>intro k e U _;rfl
 |cons o os ih=>grind [eB,kH]
theorem dq.congr{u j:ig}{k:Nat}{os:List aM}{Q:AL->aq->List dG->Prop}(h:∀o∈os,u o.dst=j o.dst)(t:dq P u k os n alD σD Q):dq P j k os n alD σD Q:=by
 obtain ⟨a,s,i,x,z⟩:=t;refine ⟨a,s,i,λe A=>?_,z⟩;obtain ⟨E,G,K⟩:=x e A
 grind [KU]
theorem fo.SD{vs i:List TV}{ds es:List D}(h:fo vs ds)(j:fo i es):fo (vs++i) (ds++es):=by
 induction h with
 |nil=>exact j
 |cons h _ ih=>exact .cons h ih
theorem ofD_rt(d:D):RT (FE d) d:=by
 unfold FE;split
 ·rename_i ds;exact ⟨ds,rfl,aH.ds ds⟩
 ·exact .inr rfl
theorem Hv{d:D}(h:d.low U.length=true):GV U (FE d):=by
 unfold FE;split
 ·rename_i ds;intro x a;rw[jJ] at a;obtain ⟨y,b,rfl⟩:=a;obtain ⟨i,e⟩:=yBr b;exact D.aV h i y e
 ·exact h
theorem Bf:∀(ds:List D),fo (ds.map FE) ds:=by
 intro ds;induction ds with
 |nil=>exact .nil
 |cons d ds ih=>exact .cons (ofD_rt d) ih
theorem Si{v:TV}{d:D}{G:FuncId}{a b:List TV}(h:fnT v=some (G,a,b))(r:RT v d)(g:GV U v):∃K L,fo a K/\fo b L/\(∀v∈a,GV U v)/\(∀v∈b,GV U v) /\
  ∀(orc:uE)(f:aP)(args:List aP)(ds:List D)(r:D)(σD1:aq)(w:List Nat),lx alD f=some d->Ri alD args=some ds->orc G (K++ds++L) σD=some (r,σD1,w)->dQ P orc n alD σD (.call f args) r σD1 w:=by
 unfold fnT at h;split at h
 ·rename_i A x y;simp only[aw,ba] at h;obtain ⟨rfl,rfl,rfl⟩:=h;have:=RT.c1 (by simp) r;subst this;refine ⟨x.map .c,y.map .c,?_,?_,λv j=>?_,λv j=>?_,λorc f args ds r σD1 w p s u=>Vd p s u⟩
  ·have:=Bf (x.map D.c);rw[Uc] at this;exact this
  ·have:=Bf (y.map D.c);rw[Uc] at this;exact this
  ·rw[jJ] at j;obtain ⟨z,_,rfl⟩:=j;exact Hv rfl
  ·rw[jJ] at j;obtain ⟨z,_,rfl⟩:=j;exact Hv rfl
 ·rename_i A x y;simp only[aw,ba] at h;obtain ⟨rfl,rfl,rfl⟩:=h;have:=RT.c1 (by simp) r;subst this;have E:D.low.cF U.length x=true/\D.low.cF U.length y=true:=by
   have:(D.low U.length (.fn (.func A) x y))=true:=g
   grind [D.low]
  refine ⟨x,y,Bf x,Bf y,λv j=>?_,λv j=>?_,λorc f args ds r σD1 w p s u=>Jl p s u⟩
  ·grind [List.getElem?_of_mem,Hv,D.aV]
  grind [List.getElem?_of_mem,Hv,D.aV]
 ·rename_i A o;simp only[aw,ba] at h;obtain ⟨rfl,rfl,rfl⟩:=h;have:=RT.c1 (x:=.DQ _ _) (by simp) r;subst this;have E:o.all (CV.low U.length)=true:=g;have N:aH RC (o.map cvT) (o.map CV.er):=by
   clear E g r;induction o with
   |nil=>exact .nil
   |cons x o ih=>exact .cons (.inr (by cases x <;> rfl)) ih
  refine ⟨[.agg (o.map CV.er)],[],.cons ⟨_,rfl,N⟩ .nil,.nil,λv j=>?_,λv j=>by grind,λorc f args ds r σD1 w p s u=>Jl p s u⟩;rw[Kz] at j;subst j;intro y M;rw[jJ] at M;obtain ⟨x,O,rfl⟩:=M;have:=gH.1 E x O;cases x with
  |d x=>exact this
  |b e=>exact True.intro
  |sl i l=>exact True.intro
 simp_all
theorem yK{g:KQ}{q:Nat}{os:List aM}(h:TX g q os=true):xO g q os=true:=by
 unfold TX at h;split at h
 ·rename_i a;have:∀o,iu g q o=none:=λo=>by grind [iu]
  clear h;induction os with
  |nil=>rfl
  |cons o os ih=>simp only[xO,this,ih,IM];simp
 omega
def Ac(g:KQ)(q k:Nat)(os:List aM)(alD:AL)(σD:aq)(Q:AL->aq->List dG->Prop):Prop:=
 ∃a,pC g.P a/\(∀t,(∀o∈os,(iu g q o).isSome=true->o.dst≠t)->a t=Gz (JK g.S))/\dq g.P a k os g.n alD σD Q
section
variable{g:KQ}{q k:Nat}{os:List aM}{alD:AL}{σD σD1:aq}{Q Q':AL->aq->List dG->Prop}{t:Nat}{ao:lg}{gd:Option (Nat×Bool)}{d:D}{w:List Nat}
theorem Ac.mono(h:Ac g q k os alD σD Q)(j:∀a s i,Q a s i->Q' a s i):Ac g q k os alD σD Q':=by obtain ⟨o,u,x,z⟩:=h;exact ⟨o,u,x,z.mono j⟩
theorem OZ{o:aM}(h:xO g q (o::os)=true):xO g q os=true:=by simp only[xO,bJ] at h;exact h.2
theorem XV{o:aM}(h:xO g q (o::os)=true)(a:iu g q o=none){t:Nat}(b:o.dst=some t):∀o'∈os,(iu g q o').isSome=true->o'.dst≠some t:=by intro o' f i e;simp only[xO,a,bJ,ic] at h;have:=h.1;rw[yBS] at this;have:=this o' f;simp[Oz,b,e,i] at this
theorem RK{o:aM}{ct:List CT}(h:xO g q (o::os)=true)(a:iu g q o=some ct){t:Nat}(b:o.dst=some t):∀o'∈os,o'.dst≠some t:=by intro o' f e;simp only[xO,a,bJ,ic] at h;have:=h.1;rw[yBS] at this;have:=this o' f;simp[Oz,b,e] at this
theorem Ac.op(L:xO g q (⟨some t,ao,gd⟩::os)=true)(M:iu g q ⟨some t,ao,gd⟩=none)(h:dQ g.P (Gz (JK g.S)) g.n alD σD ao d σD1 w)(s:Gd alD gd true)(hs:(Nat.blt t g.n&&Ec alD ao&&(k == 0 || jZ σD σD1 w))=true)
  (r:Ac g q (k-1) os ((t,d)::alD) σD1 λi U' u=>Q i U' (Eb ⟨some t,ao,gd⟩ (cat ao) (wH alD ao) w σD.length σD1.length::u)):Ac g q k (⟨some t,ao,gd⟩::os) alD σD Q:=by
 obtain ⟨x,z,A,E⟩:=r;refine ⟨x,z,λG j=>A G λo K=>j o (pG _ K),dq.op ?_ s hs E⟩
 grind [XV]
theorem Ac.eff(h:dQ g.P (Gz (JK g.S)) g.n alD σD ao d σD1 w)(s:Gd alD gd true)(hs:(Ec alD ao&&(k == 0 || jZ σD σD1 w))=true)
  (r:Ac g q (k-1) os alD σD1 λi U' u=>Q i U' (Eb ⟨none,ao,gd⟩ (cat ao) (wH alD ao) w σD.length σD1.length::u)):Ac g q k (⟨none,ao,gd⟩::os) alD σD Q:=by
 obtain ⟨x,z,A,E⟩:=r;refine ⟨x,z,λG j=>A G λo K=>j o (pG _ K),dq.eff (d:=d) ?_ s hs E⟩
 grind [iu]
theorem Ac.no(s:Gd alD gd false)(hs:(Nat.blt t g.n&&Ec alD ao)=true)
  (r:Ac g q (k-1) os ((t,.aT [])::alD) σD λi U' u=>Q i U' (Eb ⟨some t,ao,gd⟩ 0 (wH alD ao) [] σD.length σD.length::u)):Ac g q k (⟨some t,ao,gd⟩::os) alD σD Q:=by
 obtain ⟨x,z,A,E⟩:=r;exact ⟨x,z,λG j=>A G λo K=>j o (pG _ K),dq.no s hs E⟩
theorem Ac.inl{ct:List CT}{u:FuncId}{ds:List D}{wr:List Nat}(O:tf g.P (Gz (JK g.S)))(K:xO g q (⟨some t,ao,gd⟩::os)=true)(L:iu g q ⟨some t,ao,gd⟩=some ct)(M:Gd alD gd true)
  (he:bq g.P u=true) (ok:Ok g.P u ds σD d σD1) (W:σD.length<=σD1.length) (X:∀b,b<σD.length->b∉wr->σD1[b]? = σD[b]?)
  (z:∀(orc:uE),orc u ds σD=some (d,σD1,wr)->dQ g.P orc g.n alD σD ao d σD1 wr) (hs:(Nat.blt t g.n&&Ec alD ao&&(k == 0 || jZ σD σD1 wr))=true)
  (r:Ac g q (k-1) os ((t,d)::alD) σD1 λA U' Z=>Q A U' (Eb ⟨some t,ao,gd⟩ (cat ao) (wH alD ao) wr σD.length σD1.length::Z)):Ac g q k (⟨some t,ao,gd⟩::os) alD σD Q:=by
 classical
 obtain ⟨x,h1,h2,h3⟩:=r
 let i:uE:=λG s U'=>if G=u/\s=ds/\U'=σD then some (d,σD1,wr) else none
 let E:ig:=λj=>if j=some t then i else x j
 refine ⟨E,λj=>?_,λj ad=>?_,dq.op (z _ ?_) M hs (h3.congr λo ho=>?_)⟩
 ·show tf g.P (if j=some t then i else x j);split
  ·intro G s U' r U2 af h
   grind
  ·exact h1 j
 ·grind
 ·grind
 ·show x o.dst=if o.dst=some t then i else x o.dst;rw[if_neg (RK K L rfl o ho)]
end
theorem XM{g:KQ}{q:Nat}{t:Option Nat}{ao:lg}{gd:Option (Nat×Bool)}(h:qI ao=true):iu g q ⟨t,ao,gd⟩=none:=by grind [iu,qI]
theorem yC(g:KQ)(q:Nat)(O:tf g.P (Gz (JK g.S)))(hI:UI g):∀(fu k:Nat)(os:List aM)(kn:Kn)(al:TA)(U:TH)(K:KS R)(r:R)(alD:AL)(σD:aq),kg g q fu k os kn al U K=some r->xO g q os=true->Ref al U alD σD->Dh al kn->LX al kn ->
  Ac g q k os alD σD (ay al U K r):=by
 intro fu;induction fu with
 |zero=>grind [kg]
 |succ fu ih=>
  intro k os kn al U K r alD σD h hU j Kn A;cases os with
  |nil=>simp only[kg] at h;exact ⟨λ_=>Gz (JK g.S),λ_=>O,λt _=>rfl,dq.nil ⟨al,U,[],j,⟨[],rfl⟩,Ext.refl U,.nil,h⟩⟩
  |cons o os=>
   simp only[kg] at h;have L:=OZ hU;split at h
   ·simp at h
   rename_i hn;obtain ⟨M,op,gd⟩:=o;have G:=tGd_ok j Kn gd;dsimp only at h hn;have X:∀(e:Bool)(p:Nat),(∃t,ET p al=some (t,.v (.c (.b e))))->(if e=true then kg g q fu k (⟨M,op,gd⟩::os) ((p,true)::kn) al U K else kg g q fu k (⟨M,op,gd⟩::os) ((p,false)::kn) al U K)=some r ->
     Ac g q k (⟨M,op,gd⟩::os) alD σD (ay al U K r):=by
    intro e p ⟨t,ht⟩ h;have add:∀b,e=b->Dh al ((p,b)::kn):=λb hb=>Kn.add λt' e' af=>by simp_all
    split at h
    ·rename_i E;exact ih _ _ _ _ _ _ _ _ _ h hU j (add true E) (A.add (ML ht))
    ·rename_i E;exact ih _ _ _ _ _ _ _ _ _ h hU j (add false (by simp_all)) (A.add (ML ht))
   cases hg:tGd al kn gd with
   |bad=>simp_all
   |spl e p=>rw[hg] at h G;exact X e p G h
   |QQ t x=>
    rw[hg] at h G;obtain ⟨d,l,z,N⟩:=G;have R1:Ref ((t,.v x)::al) U alD σD:=⟨j.hh,λs y p hs=>by
     simp only[dV] at hs;split at hs
     ·rename_i hb;have:=cY hb;subst this;simp only[aw,ba] at hs;obtain ⟨rfl,rfl⟩:=hs;exact ⟨d,l,z,N⟩
     ·obtain ⟨d',g1,g2,g3⟩:=j.rg s y p hs;exact ⟨d',g1,g2,g3.mono (Ext.refl U) [(t,.v x)]⟩⟩
    refine (ih _ _ _ _ _ _ _ alD σD h hU R1 (Kn.cons A) A.cons).mono λa s i T=>?_;obtain ⟨a6,U',is,a1,⟨pre,rfl⟩,a3,a4,a5⟩:=T;exact ⟨_,U',is,a1,⟨pre++[(t,.v x)],by simp_all⟩,a3,a4,a5⟩
   |shut=>
    rw[hg] at h G;dsimp only at h G;cases M with
    |none=>simp at h
    |some t=>
     dsimp only at h hn;split at h
     ·simp at h
     rename_i b0;change Nat.blt t g.n=true at hn;have a7:=Uf j b0;refine Ac.no G (by simp_all) ?_;refine (ih _ _ _ _ _ _ _ ((t,.aT [])::alD) σD h L (j.set j.hh (Ext.refl U) (.inr rfl) ?_) (Kn.cons A) A.cons).mono λa s i T=>?_
     ·show D.low _ _=true;rfl
     ·refine T.cons (pre:=[(t,.v (.c (.d (.aT []))))]) rfl j.hh (Ext.refl U) ?_;rw[j.hh.len];exact ⟨rfl,rfl,rfl,rfl,rfl,.inl rfl⟩
   |sym e p w=>
    rw[hg] at h G;dsimp only at h G;obtain ⟨⟨t0,ax⟩,G1,G2⟩:=G;split at h
    ·rename_i t ak;change Nat.blt t g.n=true at hn;split at h
     ·rename_i v W;have b3:okT al op=true:=by
       cases op with
       |load m x=>
        cases x with
        |k d=>rfl
        |t a=>
         simp only[okT];simp only[gJ] at W
         grind [GX]
       |_=>rfl
      have a7:=Uf j b3;by_cases E:e=w
      ·have hr:cV U alD (GX al kn (some (p,w))):=nX j Kn λq w' e' t e2 z=>by
        simp_all
       obtain ⟨d,l,z,N⟩:=tot_ok (n:=g.n) hr j.hh ak W;obtain ⟨b1,b2⟩:=Vb hr W;refine Ac.op hU (XM ak) l (G1 E) (by grind [jZ]) ?_;refine (ih _ _ _ _ _ _ _ ((t,d)::alD) σD h L (j.set j.hh (Ext.refl U) (by simp only[RR,if_pos E];exact z) ⟨⟨t0,yc ax⟩,λ_=>N⟩) (Kn.cons A) A.cons).mono λa s i T=>?_;refine T.cons (pre:=[(t,.g e w p v)]) rfl j.hh (Ext.refl U) ?_;rw[j.hh.len,b2];exact Jf.refl _
      ·have b4:(!e)=w:=by cases e <;> cases w <;> simp_all
       refine Ac.no (G2 b4) (by simp_all) ?_;refine (ih _ _ _ _ _ _ _ ((t,.aT [])::alD) σD h L (j.set j.hh (Ext.refl U) (by simp only[RR,if_neg E]) ⟨⟨t0,yc ax⟩,λe'=>absurd e' E⟩) (Kn.cons A) A.cons).mono λa s i T=>?_;refine T.cons (pre:=[(t,.g e w p v)]) rfl j.hh (Ext.refl U) ?_;rw[j.hh.len];exact ⟨rfl,rfl,rfl,rfl,rfl,.inl rfl⟩
     simp_all
    ·exact X e p ⟨t0,ax⟩ h
   |PU=>
    rw[hg] at h G;dsimp only at h G;cases ad:iu g q ⟨M,op,gd⟩ with
    |some cs=>
     rw[ad] at h;dsimp only at h;have hr:cV U alD (GX al kn none):=nX j Kn (by simp);cases op with
     |call f args=>
      dsimp only at h;split at h
      ·rename_i fv vs a8 a9;split at h
       ·rename_i gi a b bc;split at h
        ·rename_i ct b6;obtain ⟨⟨rv,U1⟩,hy,h⟩:=zb h;obtain ⟨df,f1,f2,f3⟩:=hr _ _ a8;obtain ⟨ds,v1,v2,v3⟩:=hr.all a9;obtain ⟨da,db,a1,b1,ga,gb,a0⟩:=Si (P:=g.P) (n:=g.n) (alD:=alD) (σD:=σD) bc f2 f3;obtain ⟨E,r',Z,q1,q2,q3,q4,q5,q6⟩:=hI.two ct gi _ U rv U1 σD _ hy j.hh ((a1.SD v2).SD b1) (λv W=>by
           grind)
         cases M with
         |none=>grind [iu]
         |some t=>change Nat.blt t g.n=true at hn;refine Ac.inl (wr:=[]) O hU ad G E q5 (by grind) (λb hb _=>q6 b hb) (λa2 ho=>a0 a2 _ _ _ _ _ _ f1 v1 ho) (by grind [Ec,jZ]) ?_;refine (ih _ _ _ _ _ _ _ ((t,r')::alD) Z h L (j.set q1 q4 q2 q3) (Kn.cons A) A.cons).mono λa s i T=>?_;refine T.cons (pre:=[(t,.v (yM rv))]) rfl j.hh q4 ?_;rw[j.hh.len,q1.len];exact Jf.refl _
        obtain ⟨y,hy,h⟩:=zb h;obtain ⟨ct,x,bd,h⟩:=TQ h;split at h
        ·rename_i rv U1 be;split at h
         ·rename_i hk;obtain ⟨df,f1,f2,f3⟩:=hr _ _ a8;obtain ⟨ds,v1,v2,v3⟩:=hr.all a9;obtain ⟨da,db,a1,b1,ga,gb,a0⟩:=Si (P:=g.P) (n:=g.n) (alD:=alD) (σD:=σD) bc f2 f3;obtain ⟨E,r',Z,q1,q2,q3,q4,q5,q6,q7⟩:=hI.one _ gi _ U y ct x rv U1 σD _ hy bd be j.hh ((a1.SD v2).SD b1) (λv W=>by
           grind)
          cases M with
          |none=>grind [iu]
          |some t=>
           change Nat.blt t g.n=true at hn;have bh:(k == 0 || jZ σD Z (ct.pl.map PC.blk))=true:=by
            simp only[dW] at hk ⊢
            grind [Nat.eq_of_beq_eq_true]
           refine Ac.inl O hU ad G E q5 (by rw[j.hh.len,q1.len];exact q4.len) q6 (λa2 ho=>a0 a2 _ _ _ _ _ _ f1 v1 ho) (by rw[hn,bh];rfl) ?_;refine (ih _ _ _ _ _ _ _ ((t,r')::alD) Z h L (j.set q1 q4 q2 q3) (Kn.cons A) A.cons).mono λa s i T=>?_;refine T.cons (pre:=[(t,.v (yM rv))]) rfl j.hh q4 ?_;rw[j.hh.len,q1.len];exact Jf.refl _
         simp_all
        simp_all
       simp_all
      simp_all
     |_=>simp at h
    |none=>
    rw[ad] at h;dsimp only at h;split at h
    ·
     rename_i c x y t;change Nat.blt t g.n=true at hn;split at h
     ·rename_i cv p hc;have b5:=Rr hc;obtain ⟨dc,c1,c2,_⟩:=j.rg c _ p hc;change RT cv dc at c2;have fin:∀(v:TV)(d:D),dQ g.P (Gz (JK g.S)) g.n alD σD (.pick (.t c) x y) d σD []->RT v d->GV U v->(kg g q fu (k-1) os kn ((t,.v v)::al) U λa6 U' is=>K a6 U' (Eb ⟨some t,.pick (.t c) x y,gd⟩ (cat (.pick (.t c) x y)) none [] U.length U.length::is))=some r ->
        Ac g q k (⟨some t,.pick (.t c) x y,gd⟩::os) alD σD (ay al U K r):=by
       intro v d l z N h;refine Ac.op hU ad l G (by grind [Ec,jZ]) ?_;refine (ih _ _ _ _ _ _ _ ((t,d)::alD) σD h L (j.set j.hh (Ext.refl U) z N) (Kn.cons A) A.cons).mono λa s i T=>?_;refine T.cons (pre:=[(t,.v v)]) rfl j.hh (Ext.refl U) ?_;rw[j.hh.len];exact Jf.refl _
      generalize hG:gdC kn p cv=GG at h;unfold gdC at hG;split at hG
      ·
       have:=RT.c1 (by simp) c2;subst this;subst hG;dsimp only at h;split at h
       ·rename_i v W;obtain ⟨d,l,z,N⟩:=nX j (Kn.add (p:=p) (b:=true) λt' e' af=>by simp_all) (by simp) x v W;exact fin v d (BK c1 rfl l) z N h
       simp_all
      ·have:=RT.c1 (by simp) c2;subst this;subst hG;dsimp only at h;split at h
       ·rename_i v W;obtain ⟨d,l,z,N⟩:=nX j (Kn.add (p:=p) (b:=false) λt' e' af=>by simp_all) (by simp) y v W;exact fin v d (Df c1 rfl l) z N h
       simp_all
      ·rename_i _ e _;have:=RT.c1 (by simp) c2;subst this;cases hk:Bb p kn with
       |some b=>
        have hb:=Kn p b hk c e b5;have av:Dh al ((p,b)::kn):=Kn.add λt' e' af=>by simp_all
        cases b with
        |true=>
         rw[hk] at hG;subst hG;dsimp only at h;split at h
         ·rename_i v W;obtain ⟨d,l,z,N⟩:=nX j av (by simp) x v W;exact fin v d (BK c1 hb l) z N h
         simp_all
        |false=>
         rw[hk] at hG;subst hG;dsimp only at h;split at h
         ·rename_i v W;obtain ⟨d,l,z,N⟩:=nX j av (by simp) y v W;exact fin v d (Df c1 hb l) z N h
         simp_all
       |none=>
        rw[hk] at hG;subst hG;dsimp only at h;split at h
        ·rename_i u v hu W;split at h
         ·rename_i bu bv bi bt;have bw:∀w,e=w->∀q w',some (p,w)=some (q,w')->∀t' e',ET q al=some (t',.v (.c (.b e')))->e'=w':=λw hw q w' e1 t' e' af=>by
           simp_all
          cases E:e with
          |true=>obtain ⟨d,l,z,N⟩:=nX j Kn (bw true E) x u hu;have hd:=YZ (e:=true) bi bt z;subst hd;rw[E] at h;exact fin (pkV true bu bv) _ (BK c1 E l) (Hx (U:=U) _ _ _).1 (Hx _ _ _).2 h
          |false=>obtain ⟨d,l,z,N⟩:=nX j Kn (bw false E) y v W;have hd:=YZ (e:=false) bi bt z;subst hd;rw[E] at h;exact fin (pkV false bu bv) _ (Df c1 E l) (Hx (U:=U) _ _ _).1 (Hx _ _ _).2 h
         simp_all
        simp_all
      grind
     simp_all
    ·
     have hr:cV U alD (GX al kn none):=nX j Kn (by simp);obtain ⟨v,U1,rs,wr,d,σD1,l,z,N,h4,h5,h6,_,h7⟩:=TO (n:=g.n) hr j.hh h;obtain ⟨b1,b2⟩:=Vb hr h;dsimp only at h7;split at h7
     ·rename_i hk;have bh:(k == 0 || jZ σD σD1 wr)=true:=by
       simp only[dW] at hk ⊢
       grind [Nat.eq_of_beq_eq_true]
      cases M with
      |none=>refine Ac.eff l G (by simp_all) ?_;refine (ih _ _ _ _ _ _ _ alD σD1 h7 L (j.heap h4 h5) Kn A).mono λa s i T=>?_;refine T.cons (pre:=[]) rfl j.hh h5 ?_;rw[j.hh.len,h4.len,b2];exact Jf.refl _
      |some t=>change Nat.blt t g.n=true at hn;refine Ac.op hU ad l G (by simp_all) ?_;refine (ih _ _ _ _ _ _ _ ((t,d)::alD) σD1 h7 L (j.set h4 h5 z N) (Kn.cons A) A.cons).mono λa s i T=>?_;refine T.cons (pre:=[(t,.v v)]) rfl j.hh h5 ?_;rw[j.hh.len,h4.len,b2];exact Jf.refl _
     simp_all
end
end Go.Abs
end
section
namespace Go.Abs
noncomputable section
variable[Gl][Y:Ty]
structure Rn (m:Nat) (U1 U2:aq) (ρ:Nat->Nat) (F:Nat->Prop):Prop where
 le:m<=U2.length
 id:∀i,i<m->ρ i=i
 inj:∀i j,i<U2.length->j<U2.length->ρ i=ρ j->i=j
 fr:∀i,i<U2.length->¬F (ρ i)
 row:∀b,F b->∃(i:Nat)(l:List (TT i)),U1[b]? = some (OB (enc i) l)
 sz:∀(i:Nat),i<U2.length->∃ob1 ob2,U1[ρ i]? = some ob1/\U2[i]? = some ob2/\ob2.sz=ob1.sz
def mN(n:Nat)(ρ:Nat->Nat)(M:Nat->Option Nat):Nat->Option Nat:=λi=>if i<n then M (ρ i) else none
def ZM(F:Nat->Prop)(M:Nat->Option Nat)(Fz:Nat->Prop):Nat->Prop:=λc=>Fz c∨∃b,F b/\M b=some c
def c_(U1 U2:aq)(ρ:Nat->Nat)(F:Nat->Prop)(b d2:D):Prop:=∀(M:Nat->Option Nat)(a:Nat->Prop)(w:World)(v:Value),Rel U1 M a w->V U1 M a w b v->V U2 (mN U2.length ρ M) (ZM F M a) w d2 v
section
variable{m:Nat}{U1 U2:aq}{ρ:Nat->Nat}{F:Nat->Prop}
theorem VC.ZM{M:Nat->Option Nat}{Fz:Nat->Prop}{w:World}{x:C}{v:Value}(h:VC Fz w x v):VC (Go.Abs.ZM F M Fz) w x v:=h.mono λc i=>⟨.inl i,rfl⟩
theorem c_.any(d:D):c_ U1 U2 ρ F d .any:=λ_ _ _ _ _ _=>.any _
theorem c_.le{i d2 j:D}(h:Dw i d2)(o:c_ U1 U2 ρ F d2 j):c_ U1 U2 ρ F i j:=λM s w v R u=>o M s w v R (h _ _ _ _ _ u)
theorem c_.low(N:Rn m U1 U2 ρ F){d:D}(o:d.low m=true):c_ U1 U2 ρ F d d:=by
 intro M Fz w v R h;have at':∀b,b<m->∀x,U1[b]? = some x->∃j,U2[b]? = some j/\j.sz=x.sz:=λb z x ho=>by
  obtain ⟨ad,j,u,s,G⟩:=N.sz b (EM z N.le);rw[N.id b z,ho] at u
  simp_all
 have m2:∀b,b<m->mN U2.length ρ M b=M b:=λb z=>by unfold mN;rw[if_pos (EM z N.le),N.id b z]
 induction h with
 |c h=>exact .c h.ZM
 |any v=>exact .any v
 |ptr a x h K A=>simp only[D.low,bb] at o;obtain ⟨j,s,G⟩:=at' _ o _ h;exact .ptr a j s (by omega) (λZ=>by simp_all)
 |sl a n L O x h K A=>simp only[D.low,bb] at o;obtain ⟨j,s,G⟩:=at' _ o _ h;exact .sl a n L O j s (by omega) (λZ=>by simp_all)
 |mp c x h A=>simp only[D.low,bb] at o;obtain ⟨j,s,G⟩:=at' _ o _ h;exact .mp c j s (λZ=>by simp_all)
 |fn E ws u s A hw W X=>simp only[D.low,bJ] at o;exact .fn E ws u s (λi d v a b=>W i d v a b (D.aV o.1 i d a)) (λi d v a b=>X i d v a b (D.aV o.2 i d a))
 |agg E u A ih=>simp only[D.low] at o;exact .agg E u (λi d v a b=>ih i d v a b (D.aV o i d a))
 |aT E u A ih=>simp only[D.low] at o;exact .aT E u (λi d v a b=>ih i d v a b (D.aV o i d a))
theorem c_.data(N:Rn m U1 U2 ρ F){d:D}(i:d.low 0=true):c_ U1 U2 ρ F d d:=c_.low N (D.dJ (OL _) i)
theorem c_.ptr(N:Rn m U1 U2 ρ F){i off sz:Nat}(o:i<U2.length):c_ U1 U2 ρ F (.ptr (ρ i) off sz) (.ptr i off sz):=λM G w v R h=>by
 obtain ⟨s,j,u,x,z⟩:=N.sz i o;cases h with
 |ptr a K h A L=>rw[u] at h;simp only[aw] at h;subst h;exact .ptr a j x (by omega) (λE=>by rw[z] at E;unfold mN;simp_all)
theorem c_.sl(N:Rn m U1 U2 ρ F){i off len es sz:Nat}(u:i<U2.length):c_ U1 U2 ρ F (.sl (ρ i) off len es sz) (.sl i off len es sz):=λM L w v R h=>by
 obtain ⟨x,j,z,A,E⟩:=N.sz i u;cases h with
 |sl a n o s O h G W=>rw[z] at h;simp only[aw] at h;subst h;exact .sl a n o s j A (by omega) (λK=>by rw[E] at K;unfold mN;simp_all)
theorem c_.mp(N:Rn m U1 U2 ρ F){i:Nat}(o:i<U2.length):c_ U1 U2 ρ F (.mp (ρ i)) (.mp i):=λM E w v R h=>by
 obtain ⟨s,j,u,x,z⟩:=N.sz i o;cases h with
 |mp c G h K=>rw[u] at h;simp only[aw] at h;subst h;exact .mp c j x (λA=>by rw[z] at A;unfold mN;simp_all)
theorem c_.cU(N:Rn m U1 U2 ρ F){b i:Nat}{l:List (TT i)}(hF:F b)(hb:U1[b]? = some (OB (enc i) l)):c_ U1 U2 ρ F (OS (aA i) b l.length) (.c (.cU false (l.map (enc i)))):=λM O w v R h=>by
 classical
 let G:Nat->Option Nat:=λb=>if F b then M b else none
 have RF:Rel U1 G O w:=by
  refine ⟨λb c s=>?_,λb W c s u=>?_,R.fz,R.gl⟩
  ·simp only[G] at s;split at s
   ·rename_i X;obtain ⟨K,Z,o,E,h3,h4⟩:=R.blk b c s;refine ⟨K,Z,o,E,h3,?_⟩;obtain ⟨i',l',h5⟩:=N.row b X;rw[E] at h5;simp only[aw] at h5;subst h5;obtain ⟨z,T,ho,A,L⟩:=h4;refine ⟨z,T,ho,A,λj d v a b=>?_⟩;obtain ⟨h6,h7⟩:=L j d v a b;rw[jX,cu] at a;obtain ⟨x,_,rfl⟩:=a;cases h6 with
    |c h6=>exact ⟨.c h6,h7⟩
   simp_all
  ·simp only[G] at s u;split at s
   ·split at u
    ·exact R.inj b W c s u
    simp_all
   simp_all
 have L:V U1 G O w (OS (aA i) b l.length) v:=by
  cases h with
  |sl a n ad af Z h A L=>
   refine .sl a n ad af Z h A λhe=>?_;rcases L he with K | ⟨c,o,z,T,K,E⟩
   ·simp_all
   ·exact .inr ⟨c,o,z,T,by grind,E⟩
 have K:=C_ (k:=98) (n:=l.length) (uG i) (Y.ps i) hb rfl;have E:=GL RF 100 _ _ v K L;have h3:VC (ZM F M O) w (.cU (Nat.blt 0 l.length) (l.map (enc i))) v:=E.mono λc s=>by
  refine ⟨?_,rfl⟩;rcases s with s | ⟨W,_,s⟩
  ·exact .inl s
  ·simp only[G] at s;split at s
   ·rename_i hf;exact .inr ⟨W,hf,s⟩
   simp_all
 have:=GY h3;exact .c this
theorem c_.agg{ds es:List D}(h:aH (c_ U1 U2 ρ F) ds es):c_ U1 U2 ρ F (.agg ds) (.agg es):=λM o w v R j=>by
 cases j with
 |agg s u j=>refine .agg s (by rw[u,h.len]) λi d v a b=>?_;obtain ⟨x,z,A⟩:=h.get' i d a;exact A M o w v R (j i x v z b)
theorem c_.aT{ds es:List D}(h:aH (c_ U1 U2 ρ F) ds es):c_ U1 U2 ρ F (.aT ds) (.aT es):=λM o w v R j=>by
 cases j with
 |aT s u j=>refine .aT s (by rw[u,h.len]) λi d v a b=>?_;obtain ⟨x,z,A⟩:=h.get' i d a;exact A M o w v R (j i x v z b)
def ObR(U1 U2:aq)(ρ:Nat->Nat)(F:Nat->Prop):Ob->Ob->Prop
 |.cells ds,ob=>∃a,ob=.cells a/\aH (c_ U1 U2 ρ F) ds a
 |.map a k,ob=>ob=.map a k/\(a.all λe=>e.2.1.low 0)=true
 |.gone k,ob=>False
structure Oq (m:Nat) (U1 U2:aq) (ρ:Nat->Nat) (F:Nat->Prop):Prop extends Rn m U1 U2 ρ F where
 ob:∀(i:Nat),i<U2.length->∃ob1 ob2,U1[ρ i]? = some ob1/\U2[i]? = some ob2/\ObR U1 U2 ρ F ob1 ob2
theorem Oq.rel(N:Oq m U1 U2 ρ F){M:Nat->Option Nat}{Fz:Nat->Prop}{w:World}(R:Rel U1 M Fz w):Rel U2 (mN U2.length ρ M) (ZM F M Fz) w:=by
 refine ⟨λb c j=>?_,λb b' c j s=>?_,λc u=>?_,Gl.mono (λc h=>⟨.inl h,rfl⟩) R.gl⟩
 ·unfold mN at j;split at j
  ·rename_i A;obtain ⟨h1,ob,o,K,h3,h4⟩:=R.blk _ c j;obtain ⟨av,L,O,h6,W⟩:=N.ob b A;rw[K] at O;simp only[aw] at O;subst O;refine ⟨λE=>?_,L,o,h6,h3,?_⟩
   ·rcases E with E | ⟨b',E,u⟩
    ·simp_all
    ·rw[R.inj _ _ c u j] at E;exact N.fr b A E
   ·cases ob with
    |cells cs=>obtain ⟨z,T,X,G,Z⟩:=h4;obtain ⟨es,rfl,ha⟩:=W;refine ⟨z,T,X,by grind [aH.len],λi d v x y=>?_⟩;obtain ⟨d1,h8,h9⟩:=ha.get' i d x;obtain ⟨ad,af⟩:=Z i d1 v h8 y;exact ⟨h9 M Fz w v R ad,af⟩
    |map es ak=>obtain ⟨z,X,G,Z⟩:=h4;obtain ⟨rfl,hl⟩:=W;refine ⟨z,X,G,λi k d n e x y=>?_⟩;obtain ⟨p,q,r⟩:=Z i k d n e x y;rw[gH] at hl;exact ⟨p,q,c_.data N.toRn (hl (k,d,n) (yl x)) M Fz w _ R r⟩
    |gone n=>exact W.elim
  simp_all
 ·unfold mN at j s;split at j
  ·rename_i h1;split at s
   ·rename_i K;exact N.inj b b' h1 K (R.inj _ _ c j s)
   simp_all
  simp_all
 ·rcases u with u | ⟨b,_,u⟩
  ·exact R.fz c u
  ·exact (R.lt u).2
theorem Oq.W_(N:Oq m U1 U2 ρ F){U:aq}(A:U.length<=m){M o:Nat->Option Nat}{Fz j:Nat->Prop}{w s:World}(Z:∀b,F b->m<=b)(R:Rel U M Fz w)(R1:Rel U1 o j s)(E:bQ U M Fz w U1 o j s) :
  bQ U M Fz w U2 (mN U2.length ρ o) (ZM F o j) s:=by
 refine ⟨E.size,E.frame,λb c h=>?_,λc h=>⟨.inl (E.fz c h).1,(E.fz c h).2⟩,λc h=>?_,E.sa,λb G z=>?_,E.out⟩
 ·unfold mN at h;split at h
  ·exact E.oA _ c h
  simp_all
 ·rcases h with h | ⟨b,_,h⟩
  ·exact E.rS c h
  ·rcases E.oA b c h with K | K
   ·simp_all
   omega
 ·obtain ⟨L,O,h2,h3⟩:=E.cX b G z;have i:b<m:=EM (jy.1 z).1 A;obtain ⟨W,u,x,X,h6⟩:=N.sz b (EM i N.le);rw[N.id b i,O] at x;simp only[aw] at x;subst x;refine ⟨u,X,by omega,λhe=>?_⟩;unfold mN;rw[if_pos (EM i N.le),N.id b i]
  simp_all
end
end
end Go.Abs
end
section
namespace Go.Abs
noncomputable section
variable[Gl][Y:Ty]
def SzC(m:Nat)(U1 U2:aq):Prop:=∀b,b<m->∀e,U1[b]? = some e->∃a,U2[b]? = some a/\a.sz=e.sz
def kh(m:Nat)(b d2:D):Prop:=∀(U1 U2:aq)(M:Nat->Option Nat)(a:Nat->Prop)(w:World)(v:Value),SzC m U1 U2->V U1 M a w b v->V U2 (cG M m) a w d2 v
theorem kh.any(m:Nat)(d:D):kh m d .any:=λ_ _ _ _ _ _ _ _=>.any _
theorem kh.low{m:Nat}{d:D}(j:d.low m=true):kh m d d:=by
 intro U1 U2 M Fz w v hs h;induction h with
 |c h=>exact .c h
 |any v=>exact .any v
 |ptr a X h E u=>simp only[D.low,bb] at j;obtain ⟨o,s,G⟩:=hs _ j _ h;exact .ptr a o s (by omega) (λA=>by grind [cG])
 |sl a n K L X h E u=>simp only[D.low,bb] at j;obtain ⟨o,s,G⟩:=hs _ j _ h;exact .sl a n K L o s (by omega) (λA=>by rw[G] at A;simpa[cG,j] using u A)
 |mp c X h u=>simp only[D.low,bb] at j;obtain ⟨o,s,G⟩:=hs _ j _ h;exact .mp c o s (λA=>by grind [cG])
 |fn x Z z s u hw O W=>simp only[D.low,bJ] at j;exact .fn x Z z s (λi d v a b=>O i d v a b (D.aV j.1 i d a)) (λi d v a b=>W i d v a b (D.aV j.2 i d a))
 |agg x z u ih=>simp only[D.low] at j;exact .agg x z (λi d v a b=>ih i d v a b (D.aV j i d a))
 |aT x z u ih=>simp only[D.low] at j;exact .aT x z (λi d v a b=>ih i d v a b (D.aV j i d a))
theorem kh.le{m:Nat}{i d2 j:D}(h:Dw i d2)(s:kh m d2 j):kh m i j:=λU1 U2 M o w v hs u=>s U1 U2 M o w v hs (h U1 M o w v u)
theorem kh.agg{m:Nat}{ds es:List D}(h:aH (kh m) ds es):kh m (.agg ds) (.agg es):=λU1 U2 M o w v hs j=>by
 cases j with
 |agg s u j=>refine .agg s (by rw[u,h.len]) λi d v a b=>?_;obtain ⟨x,z,A⟩:=h.get' i d a;exact A U1 U2 M o w v hs (j i x v z b)
theorem kh.aT{m:Nat}{ds es:List D}(h:aH (kh m) ds es):kh m (.aT ds) (.aT es):=λU1 U2 M o w v hs j=>by
 cases j with
 |aT s u j=>refine .aT s (by rw[u,h.len]) λi d v a b=>?_;obtain ⟨x,z,A⟩:=h.get' i d a;exact A U1 U2 M o w v hs (j i x v z b)
def Vq(m:Nat):Ob->Ob->Prop
 |.cells ds,ob=>∃a,ob=.cells a/\aH (kh m) ds a
 |.map a k,ob=>ob=.map a k/\(a.all λe=>e.2.1.low m)=true
 |.gone k,ob=>ob=.gone k
theorem Vq.sz{m:Nat}{a b:Ob}(h:Vq m a b):b.sz=a.sz:=by
 cases a with
 |cells ds=>obtain ⟨i,rfl,h⟩:=h;simp only[Ob.sz,h.len]
 |map i k=>obtain ⟨rfl,_⟩:=h;rfl
 |gone k=>cases h;rfl
structure HpW (m:Nat) (U1 U2:aq):Prop where
 len:U2.length=m
 le:m<=U1.length
 ob:∀b ob,U1[b]? = some ob->b<m->∃ob2,U2[b]? = some ob2/\Vq m ob ob2
theorem HpW.szc{m:Nat}{U1 U2:aq}(h:HpW m U1 U2):SzC m U1 U2:=λb j o s=>let ⟨i,h1,h2⟩:=h.ob b o s j;⟨i,h1,h2.sz⟩
theorem HpW.rel{m:Nat}{U1 U2:aq}(h:HpW m U1 U2){M:Nat->Option Nat}{Fz:Nat->Prop}{w:World}(R:Rel U1 M Fz w):Rel U2 (cG M m) Fz w:=by
 refine ⟨λb c j=>?_,λb b' c j s=>?_,R.fz,R.gl⟩
 ·unfold cG at j;split at j
  ·rename_i A;obtain ⟨h1,X,o,h2,h3,E⟩:=R.blk b c j;obtain ⟨G,h5,Z⟩:=h.ob b X h2 A;refine ⟨h1,G,o,h5,h3,?_⟩;cases X with
   |cells cs=>obtain ⟨u,T,K,z,L⟩:=E;obtain ⟨es,rfl,ha⟩:=Z;refine ⟨u,T,K,by grind [aH.len],λi d v x y=>?_⟩;obtain ⟨d1,h7,h8⟩:=ha.get' i d x;obtain ⟨h9,O⟩:=L i d1 v h7 y;exact ⟨h8 U1 U2 M Fz w v h.szc h9,O⟩
   |map es W=>obtain ⟨u,K,z,L⟩:=E;obtain ⟨rfl,hl⟩:=Z;refine ⟨u,K,z,λi k d n e x y=>?_⟩;obtain ⟨p,q,r⟩:=L i k d n e x y;rw[gH] at hl;exact ⟨p,q,kh.low (hl (k,d,n) (yl x)) U1 U2 M Fz w _ h.szc r⟩
   |gone n=>exact E.elim
  simp_all
 ·unfold cG at j s;split at j
  ·split at s
   ·exact R.inj b b' c j s
   simp_all
  simp_all
theorem HpW.W_{m:Nat}{U1 U2 U:aq}(h:HpW m U1 U2){M u:Nat->Option Nat}{Fz i:Nat->Prop}{w x:World}(E:bQ U M Fz w U1 u i x)(A:U.length<=m):bQ U M Fz w U2 (cG u m) i x:=by
 refine ⟨E.size,E.frame,λb c h=>?_,E.fz,E.rS,E.sa,λb G z=>?_,E.out⟩
 ·unfold cG at h;split at h
  ·exact E.oA b c h
  simp_all
 ·obtain ⟨o,K,O,W⟩:=E.cX b G z;have j:b<m:=EM (jy.1 z).1 A;obtain ⟨s,L,X⟩:=h.ob b o K j;exact ⟨s,L,by grind [Vq.sz],λZ=>by simp only[cG,if_pos j];grind [Vq.sz]⟩
structure StW0 (m:Nat) (al1:AL) (U1:aq) (al2:AL) (U2:aq):Prop where
 hp:HpW m U1 U2
 rg:∀t d2,lk t al2=some d2->∃d1,lk t al1=some d1/\kh m d1 d2
def r_(m:Nat)(al1:AL)(U1:aq)(al2:AL)(U2:aq):Prop:=m<=U2.length/\∀(n:Nat)(h:Nat->Option Nat)(b:Nat->Prop)(f:World)(a:Array Value),Rel U1 h b f->fU n U1 h b f al1 a ->
 ∃i e,Rel U2 i e f/\fU n U2 i e f al2 a/\∀(U:aq)(M:Nat->Option Nat)(j:Nat->Prop)(w:World),Rel U M j w->bQ U M j w U1 h b f->U.length<=m->bQ U M j w U2 i e f
section
variable{P:Program}{n:Nat}{al al1 al2:AL}{U U1 U2:aq}{Q Q':qd->AL->aq->Prop}
theorem StW0.st{m:Nat}(h:StW0 m al1 U1 al2 U2):r_ m al1 U1 al2 U2:=⟨by rw[h.hp.len];omega,λn o i O j R A=>by refine ⟨cG o m,i,h.hp.rel R,⟨A.1,λt d s=>?_⟩,λU M W w _ E u=>h.hp.W_ E u⟩;obtain ⟨x,z,G⟩:=h.rg t d s;obtain ⟨v,K,L⟩:=A.2 t x z;exact ⟨v,K,G _ _ _ _ _ _ h.hp.szc L⟩⟩
theorem r_.refl{m:Nat}(h:m<=U.length):r_ m al U al U:=⟨h,λn o i s j R A=>⟨o,i,R,A,λU M u w _ E _=>E⟩⟩
theorem r_.trans{m:Nat}{j:AL}{s:aq}(h:r_ m al1 U1 al2 U2)(u:r_ m al2 U2 j s):r_ m al1 U1 j s:=⟨u.1,λn z o x i R A=>by
 obtain ⟨E,G,K,L,M⟩:=h.2 n z o x i R A;obtain ⟨O,W,X,Z,E3⟩:=u.2 n E G x i K L
 grind⟩
theorem r_.rn{m:Nat}{ρ:Nat->Nat}{F:Nat->Prop}(N:Oq m U1 U2 ρ F)(o:∀b,F b->m<=b)(h:∀t d2,lk t al2=some d2->∃i,lk t al1=some i/\c_ U1 U2 ρ F i d2):r_ m al1 U1 al2 U2:=⟨N.le,λn W s X j R A=>by refine ⟨_,_,N.rel R,⟨A.1,λt d u=>?_⟩,λU M Z w x E z=>N.W_ z o x R E⟩;obtain ⟨i,G,K⟩:=h t d u;obtain ⟨v,L,O⟩:=A.2 t i G;exact ⟨v,L,K _ _ _ _ R O⟩⟩
theorem r_.use{m:Nat}(h:r_ m al1 U1 al2 U2){M x:Nat->Option Nat}{Fz j:Nat->Prop}{w o:World}{i:Array Value}(G:Rel U M Fz w)(R:Rel U1 x j o)(A:fU n U1 x j o al1 i)(E:bQ U M Fz w U1 x j o)(z:U.length<=m) :
  ∃u s,Rel U2 u s o/\fU n U2 u s o al2 i/\bQ U M Fz w U2 u s o/\U.length<=U2.length:=by
 obtain ⟨u,K,L,O,W⟩:=h.2 n x j o i R A;exact ⟨u,K,L,O,W U M Fz w G E z,mA z h.1⟩
theorem Sem.gg{ac:br}(h:Sem P ac n al U Q)(o:∀x i U',Q x i U'->Q' x i U'∨∃al2 U2,r_ U.length i U' al2 U2/\Q' x al2 U2):Sem P ac n al U Q':=by
 intro c s M u w a K R A X;refine h c s M u w a K R A λx i U' Z w' M' z E hd G L O hl=>?_;rcases o x i U' E with j | ⟨al2,U2,W,j⟩
 ·grind
 ·obtain ⟨M2,F2,R2,A2,E2,l2⟩:=W.use R G L O (cT _)
  grind
theorem Sem.jB{a b:br}(h:Sem P a n al U λx al1 U1=>match x with | .normal=>Sem P b n al1 U1 Q∨∃al2 U2,r_ U.length al1 U1 al2 U2/\Sem P b n al2 U2 Q | x=>Q x al1 U1):Sem P (.seq a b) n al U Q:=by
 refine Sem.seq (h.gg (Q':=λx al1 U1=>match x with | .normal=>∃al2 U2,Wk U.length al1 U1 al2 U2/\Sem P b n al2 U2 Q | x=>Q x al1 U1) λx o s j=>?_);cases x with
 |normal=>
  rcases j with j | ⟨al2,U2,u,j⟩
  ·exact .inl ⟨o,s,.refl,j⟩
  ·exact .inr ⟨al2,U2,u,al2,U2,.refl,j⟩
 |exit i=>simp_all
 |ret=>simp_all
theorem kS.preW{ac:br}{k:Nat}(hs:r_ U.length al U al2 U2)(h:kS P ac k n al2 U2 Q):kS P ac k n al U Q:=by intro c s M Fz w a K R A u;obtain ⟨z,E,G,L,O,o⟩:=hs.use R R A (bQ.refl R) (cT _);exact h c s z E w a K G L λx i W X Z M' j hQ hd R' A' E' hl=>u x i W X Z M' j hQ hd R' A' (O.trans E' o) (mA o hl)
theorem kS.succW{b:br}{k:Nat}(h:Sem P b n al U λx al1 U1=>match x with | .normal=>∃al2 U2,r_ U.length al1 U1 al2 U2/\kS P b k n al2 U2 Q | x=>Q x al1 U1):kS P b (k+1) n al U Q:=by
 refine kS.succ (h.gg (Q':=λx al1 U1=>match x with | .normal=>∃al2 U2,Wk U.length al1 U1 al2 U2/\kS P b k n al2 U2 Q | x=>∃al2 U2,Wk U.length al1 U1 al2 U2/\Q x al2 U2) λx j s o=>?_);cases x with
 |normal=>obtain ⟨al2,U2,u,o⟩:=o;exact .inr ⟨al2,U2,u,al2,U2,.refl,o⟩
 |exit i=>exact .inl ⟨j,s,.refl,o⟩
 |ret=>exact .inl ⟨j,s,.refl,o⟩
end
section
theorem Uo{U:TH}{x:TC}{d:D}(r:RC x d)(g:GC U x):kh U.length d x.er:=by
 rcases r with rfl | rfl
 ·exact kh.any _ _
 ·cases x with
  |any=>exact kh.any _ _
  |d y=>exact kh.low g
  |own i b v n=>obtain ⟨blk,h,_⟩:=g;exact kh.low (by simp only[TC.er,OS,D.low,bb];grind)
  |op i b v n k a off=>obtain ⟨blk,h,_⟩:=g;exact kh.low (by simp only[TC.er,D.low,bb];grind)
  |os i b v n e len=>obtain ⟨blk,h,_⟩:=g;exact kh.low (by simp only[TC.er,D.low,bb];grind)
  |ap b off len sz k=>exact kh.low (by simp only[TC.er,D.low,bb];exact g)
  |DQ f j=>exact kh.low (yx g)
  |_=>exact kh.low rfl
theorem Sj{U:TH}{x:TC}{d:D}(r:RC x d)(g:GC U x):∃d2,kh U.length d d2/\RC x d2:=⟨_,Uo r g,.inr rfl⟩
theorem Ul{U:TH}{a:List TC}{ds:List D}(r:aH RC a ds)(g:∀x∈a,GC U x):∃es,aH (kh U.length) ds es/\aH RC a es:=by
 induction r with
 |nil=>exact ⟨[],.nil,.nil⟩
 |cons h _ ih=>obtain ⟨e,b,f⟩:=Sj h (g _ (pe ..));obtain ⟨es,i,j⟩:=ih λx l=>g x (pG _ l);exact ⟨e::es,.cons b i,.cons f j⟩
theorem RE_wk{U:TH}{p:Bool×List TC}{d:D}(r:RE p d)(g:∀x∈p.2,GC U x):∃d2,kh U.length d d2/\RE p d2:=by
 obtain ⟨f,j⟩:=p;cases f with
 |true=>obtain ⟨ds,rfl,h⟩:=r;obtain ⟨i,a,b⟩:=Ul h g;exact ⟨.agg i,kh.agg a,i,rfl,b⟩
 |false=>obtain ⟨x,rfl,h⟩:=r;obtain ⟨e,a,b⟩:=Sj h (g x (by simp));exact ⟨e,a,x,rfl,b⟩
theorem Zd{U:TH}{x:TV}{d:D}(r:RT x d)(g:GV U x):∃d2,kh U.length d d2/\RT x d2:=by
 cases x with
 |c x=>exact Sj r g
 |agg i=>obtain ⟨ds,rfl,h⟩:=r;obtain ⟨a,b,f⟩:=Ul h g;exact ⟨.agg a,kh.agg b,a,rfl,f⟩
 |aT i=>
  obtain ⟨ds,rfl,h⟩:=r;have:∃a,aH (kh U.length) ds a/\aH RE i a:=by
   induction h with
   |nil=>exact ⟨[],.nil,.nil⟩
   |cons h _ ih=>obtain ⟨e,b,f⟩:=RE_wk h (g _ (pe ..));obtain ⟨a,j,l⟩:=ih λx o=>g x (pG _ o);exact ⟨e::a,.cons b j,.cons f l⟩
  obtain ⟨a,b,f⟩:=this;exact ⟨.aT a,kh.aT b,a,rfl,f⟩
theorem Zp{al:TA}{U:TH}{x:RV}{d:D}(r:RR x d)(g:GW al U x):∃d2,kh U.length d d2/\RR x d2:=by
 cases x with
 |v x=>exact Zd r g
 |g c w p x=>
  by_cases h:c=w
  ·simp only[RR,if_pos h] at r ⊢;exact Zd r (g.2 h)
  ·simp only[RR,if_neg h] at r ⊢;subst r;exact ⟨.aT [],kh.low rfl,rfl⟩
theorem rdV_wk{m:Nat}{c:cR}{v:TV}{d:D}{a:c.dn}(h:qF c v=some a)(r:RT v d):kh m d (c.enc a):=by obtain ⟨b,f,_⟩:=MJ h r;refine kh.le (d2:=Bi d) (λU M i w v e=>DA e) ?_;rw[b];exact kh.low (D.dJ (OL _) (c.Hy a))
theorem rdC_wk{m:Nat}{c:CC}{x:TC}{d:D}{a:c.dn}(h:EC c x=some a)(r:RC x d):kh m d (.c (qS enc c a)):=by
 obtain ⟨f,b⟩:=nZ h;rcases r with r | rfl
 ·simp_all
 ·rw[<-b];refine kh.le (d2:=vM x.er) (λU M i w v e=>Hp e) ?_;rw[b];exact kh.low rfl
theorem Ah{α:Type}{p:Nat->α->Prop}(m:Nat)(h:∀b,b<m->∃a,p b a):∃l:List α,l.length=m/\∀b a,l[b]? = some a->p b a:=by
 induction m with
 |zero=>simp_all
 |succ m ih=>
  obtain ⟨l,e,f⟩:=ih λb i=>h b (by omega);obtain ⟨a,j⟩:=h m (by omega);refine ⟨l++[a],by simp[e],λb x o=>?_⟩
  grind
theorem GJ{t:Nat}:∀{al:TA}{f:Nat->D},(∃x p,dV t al=some (x,p))->lk t (al.map λp=>(p.1,f p.1))=some (f t):=by
 intro al f;induction al with
 |nil=>grind [dV]
 |cons y al ih=>grind [dV,lk,Nat.eq_of_beq_eq_true]
theorem Cb{t:Nat}{d:D}:∀{al:TA}{f:Nat->D},lk t (al.map λp=>(p.1,f p.1))=some d->(∃x p,dV t al=some (x,p))/\d=f t:=by
 intro al f;induction al with
 |nil=>grind [lk]
 |cons y al ih=>
  intro h;obtain ⟨s,z⟩:=y;simp only[oK,lk] at h;simp only[dV];split at h
  ·simp_all
  simp_all
theorem stw_of{al2:TA}{U2:TH}{a:AL}{σD1:aq}(u:U2.length<=σD1.length)
  (z:∀t x p,dV t al2=some (x,p)->GW al2 U2 x/\∃l d2,lk t a=some l/\kh U2.length l d2/\RR x d2)
  (G:∀(b:Nat) blk,U2[b]? = some blk->∃i j,σD1[b]? = some i/\Vq U2.length i j/\RB blk j)
  (K:∀(b:Nat) w cs,U2[b]? = some (.cells w cs)->∀p∈cs,GC U2 p.2/\p.1<=w) :
  ∃o e,r_ U2.length a σD1 o e/\Ref al2 U2 o e:=by
 have v:∃f:Nat->D,∀t x p,dV t al2=some (x,p)->∃l,lk t a=some l/\kh U2.length l (f t)/\RR x (f t):=by
  have:∀t,∃d2,∀x p,dV t al2=some (x,p)->∃l,lk t a=some l/\kh U2.length l d2/\RR x d2:=by
   intro t;cases L:dV t al2 with
   |none=>simp_all
   |some q=>obtain ⟨x,p⟩:=q;obtain ⟨_,l,d2,T,M,y⟩:=z t x p L;exact ⟨d2,λW X h=>by simp_all⟩
  exact ⟨λt=>Classical.choose (this t),λt=>yB6 (this t)⟩
 obtain ⟨f,v⟩:=v;obtain ⟨e,A,M⟩:=Ah (p:=λb j=>∃blk i,U2[b]? = some blk/\σD1[b]? = some i/\Vq U2.length i j/\RB blk j) U2.length λb s=>by
  obtain ⟨i,j,y,N,E⟩:=G b _ (dB s)
  grind
 refine ⟨al2.map λp=>(p.1,f p.1),e,StW0.st ⟨⟨A,u,λb Z ho O=>?_⟩,λt d h=>?_⟩,⟨⟨by rw[A],λb blk s=>?_,K⟩,λt x p h=>?_⟩⟩
 ·grind
 ·obtain ⟨⟨x,p,y⟩,rfl⟩:=Cb h
  grind
 ·grind
 ·obtain ⟨l,y,N,E⟩:=v t x p h;exact ⟨f t,GJ ⟨x,p,h⟩,E,(z t x p h).1⟩
end
end
end Go.Abs
end
section
namespace Go.Abs
noncomputable section
variable[Gl][Y:Ty]
def Ws(pl:List Pl)(b j:Nat):Prop:=∀c,Pl.h b j c∉pl
def YN(pl:List Pl)(b:Nat):Prop:=∀i,Pl.w b i∉pl
def notM(pl:List Pl)(b:Nat):Prop:=∀j st,Pl.m b j st∉pl
def SB(pl:List Pl)(b:Nat):TB->TB->Prop
 |.cells w u,a=>∃w1 e,a=.cells w1 e/\e.length=u.length/\∀(j:Nat) p p1,u[j]? = some p->e[j]? = some p1->Ws pl b j->p1=p
 |.row i l x y,a=>∃o f h,a=.row i o f h/\(YN pl b->o=l/\f=x/\h=y)
 |.mp j st l v,a=>∃z s o A,a=.mp z s o A/\(notM pl b->a=.mp j st l v)
def HS(pl:List Pl)(U U1:TH):Prop:=∀(b:Nat) blk,U[b]? = some blk->∃a,U1[b]? = some a/\SB pl b blk a
theorem SB.trans{pl:List Pl}{b:Nat}{x y z:TB}(s:SB pl b x y)(u:SB pl b y z):SB pl b x z:=by
 cases x with
 |cells w cs=>
  obtain ⟨w1,W,rfl,L,c1⟩:=s;obtain ⟨w2,A,rfl,o,M⟩:=u;refine ⟨w2,A,rfl,by omega,λj p p2 e e2 O=>?_⟩
  grind
 |row i l lv cv=>
  obtain ⟨L,X,Z,rfl,c1⟩:=s;obtain ⟨o,E,G,rfl,M⟩:=u;refine ⟨o,E,G,rfl,λO=>?_⟩
  simp_all
 |mp j st l v=>
  obtain ⟨j1,ad,L,v1,rfl,c1⟩:=s;obtain ⟨j2,K,o,v2,rfl,M⟩:=u;refine ⟨j2,K,o,v2,rfl,λO=>?_⟩
  grind
theorem HS.trans{pl:List Pl}{U U1 U2:TH}(o:HS pl U U1)(s:HS pl U1 U2):HS pl U U2:=λb blk h=>by obtain ⟨i,u,s1⟩:=o b blk h;obtain ⟨j,x,z⟩:=s b i u;exact ⟨j,x,s1.trans z⟩
theorem Gm{f:Pl->Bool}{pl:List Pl}(h:pl.any f=true):∃p∈pl,f p=true:=by simp_all
theorem HQ{pl:List Pl}{b:Nat}:∀{f a:List (Nat×TC)}{i:Nat},lf pl b i f a=true->f.length=a.length/\∀(j:Nat) p q,f[j]? = some p->a[j]? = some q->Ws pl b (i+j)->p.1=q.1:=by
 intro f;induction f with
 |nil=>
  intro a i h;cases a with
  |nil=>simp_all
  |cons y a=>grind [lf]
 |cons x f ih=>
  intro a i h;cases a with
  |nil=>grind [lf]
  |cons y a=>
   obtain ⟨v,x⟩:=x;obtain ⟨w,y⟩:=y;simp only[lf,bJ,dW] at h;obtain ⟨l,u⟩:=h;obtain ⟨z,L⟩:=ih u;refine ⟨by simp[z],λj p q e s A=>?_⟩;cases j with
   |zero=>
    simp only[List.getElem?_cons_zero,aw] at e s;subst e s;rcases l with l | l
    ·simp_all
    ·obtain ⟨p,E,o⟩:=Gm l;exfalso;split at o
     ·rename_i M N c;simp only[bJ] at o;have G:=cY o.1;have K:=cY o.2;subst G K;exact A c E
     grind
   |succ j=>grind
theorem Am{pl:List Pl}:∀{U U1:TH}{e:Nat},dI pl e U U1=true->∀(b:Nat) blk,U[b]? = some blk->∃a,U1[b]? = some a/\ym pl (e+b) blk a=true:=by
 intro U;induction U with
 |nil=>simp_all
 |cons x U ih=>
  intro U1 e h b blk f;cases U1 with
  |nil=>grind [dI]
  |cons y U1=>
   simp only[dI,bJ] at h
   grind
theorem Wb{pl:List Pl}{U U1:TH}{σD:aq}(H:RH U σD)(h:dI pl 0 U U1=true)(X:Ext U U1):HS pl U U1:=λb blk y=>by
 obtain ⟨f,T,a⟩:=Am h b blk y;rw[N_] at a;obtain ⟨z,A,E⟩:=X b blk y;rw[T] at A;simp only[aw] at A;subst A;refine ⟨f,T,?_⟩;cases blk with
 |cells w Z=>
  obtain ⟨w1,G,rfl,hw,hl,hc⟩:=E;simp only[ym] at a;obtain ⟨_,h5⟩:=HQ a;refine ⟨w1,G,rfl,hl,λj p p1 e o u=>?_⟩;have hv:=h5 j p p1 e o (by simp_all);obtain ⟨v,x⟩:=p;obtain ⟨W,x1⟩:=p1;have ad:=(H.hg b w Z y _ (yl e)).2
  grind
 |row i l lv cv=>
  obtain ⟨K,L,M,rfl,_,_,_,h8⟩:=E;refine ⟨K,L,M,rfl,λu=>?_⟩;simp only[ym,dW] at a;rcases a with a | a
  ·simp_all
  ·obtain ⟨p,N,s⟩:=Gm a;exfalso;split at s
   ·have o:=cY s;subst o;exact u _ N
   simp_all
 |mp j st l v=>
  obtain ⟨j1,O,K,W,rfl,_,h8⟩:=E;refine ⟨j1,O,K,W,rfl,λu=>?_⟩;simp only[ym,dW] at a;rcases a with a | a
  ·simp_all
  ·obtain ⟨p,N,s⟩:=Gm a;exfalso;split at s
   ·have o:=cY s;subst o;exact u _ _ N
   simp_all
def PB(al1:TA)(U1:TH)(h:List Pl)(b:Nat):TB->TB->Prop
 |.cells w E,e=>∃w2 f,e=.cells w2 f/\f.length=E.length/\∀(j:Nat) x,f[j]? = some x->x.1<=w2/\((∃c a,x.2=xf c a/\Rk al1 U1 (.h b j c)=some a/\Pl.h b j c∈h)∨(E[j]? = some x/\Ws h b j))
 |.row i l K L,e=>∃o p s,e=.row i o p s/\(((∃y z,U1[b]? = some (.row i o y z))/\∃M,Pl.w b M∈h)∨(o=l/\p=K/\s=L/\YN h b))
 |.mp j st l v,e=>∃G u o N,e=.mp G u o N/\(((∃O,U1[b]? = some (.mp G u o O))/\∃T A,Pl.m b T A∈h)∨(e=.mp j st l v/\notM h b))
def PQ(al1:TA)(U1:TH)(e:List Pl)(U U2:TH):Prop:=U2.length=U.length/\∀(b:Nat) blk,U[b]? = some blk->∃a,U2[b]? = some a/\BE blk a/\PB al1 U1 e b blk a
theorem xF{i j:Nat}{l:List (Int×TT j)}{m:List (Int×TT i)}(h:Iw l=some m):∃e:j=i,m=e▸l:=by
 unfold Iw at h;split at h
 ·simp_all
 simp_all
theorem PQ.nil{al1:TA}{U1 U:TH}{σD:aq}(H:RH U σD):PQ al1 U1 [] U U:=⟨rfl,λb blk h=>⟨blk,h,BE.refl blk,by
 cases blk with
 |cells w o=>exact ⟨w,o,rfl,rfl,λj s e=>⟨(H.hg b w o h s (yl e)).2,.inr ⟨e,λc A=>by grind⟩⟩⟩
 |row i l u x=>exact ⟨l,u,x,rfl,.inr ⟨rfl,rfl,rfl,λi z=>by grind⟩⟩
 |mp j st l v=>exact ⟨j,st,l,v,rfl,.inr ⟨rfl,λj st z=>by grind⟩⟩⟩⟩
theorem PB.Mb{al1:TA}{U1:TH}{O:List Pl}{b:Nat}{x y:TB}{p:Pl}(h:PB al1 U1 O b x y)(h1:∀j c,p≠.h b j c)(h2:∀i,p≠.w b i)(h3:∀j st,p≠.m b j st):PB al1 U1 (p::O) b x y:=by
 cases x with
 |cells w cs=>
  obtain ⟨w2,A,e,z,X⟩:=h;refine ⟨w2,A,e,z,λj Z e2=>?_⟩;obtain ⟨h4,o⟩:=X j Z e2;refine ⟨h4,?_⟩;rcases o with ⟨c,a,o,u,W⟩ | ⟨o,u⟩
  ·grind
  ·refine .inr ⟨o,λc s=>?_⟩;rcases me.1 s with s | s
   ·grind
   ·exact u c s
 |row i l lv cv=>
  obtain ⟨z,E,G,e,o⟩:=h;refine ⟨z,E,G,e,?_⟩;rcases o with ⟨o,i',u⟩ | ⟨o,u,W,K⟩
  ·grind
  ·refine .inr ⟨o,u,W,λi L=>?_⟩;rcases me.1 L with s | s
   ·grind
   ·exact K i s
 |mp j st l v=>
  obtain ⟨j2,M,z,v2,e,o⟩:=h;refine ⟨j2,M,z,v2,e,?_⟩;rcases o with ⟨o,j',ad,u⟩ | ⟨o,K⟩
  ·grind
  ·refine .inr ⟨o,λj st L=>?_⟩;rcases me.1 L with s | s
   ·grind
   ·exact K j st s
theorem PQ.step{al1:TA}{U1 U U2:TH}{σD:aq}{ps pl:List Pl}(H:RH U σD)(hs:HS pl U U1)(p:Pl)(x:p.dn)(X:Rk al1 U1 p=some x)(h:PQ al1 U1 ps U U2):PQ al1 U1 (p::ps) U (PI p x U2):=by
 obtain ⟨hl,hb⟩:=h;cases p with
 |r t c=>exact ⟨hl,λb blk e=>let ⟨o,E,K,G⟩:=hb b blk e;⟨o,E,K,G.Mb (by simp) (by simp) (by simp)⟩⟩
 |w M i0=>
  simp only[PI];split
  ·rename_i j l lv cv e0;refine ⟨by simp[hl],λb blk e=>?_⟩;obtain ⟨o,E,K,G⟩:=hb b blk e;by_cases s:b=M
   ·subst s;rw[e0] at E;simp only[aw] at E;subst E;refine ⟨_,Gu e0,?_⟩;simp only[Rk] at X;split at X
    ·rename_i j1 l1 a2 a3 e1;obtain ⟨rfl,rfl⟩:=OX X;obtain ⟨af,A,Z⟩:=hs b blk e;rw[e1] at A;simp only[aw] at A;subst A;cases blk with
     |cells w cs=>obtain ⟨_,_,L,_⟩:=Z;grind
     |mp q st l v=>obtain ⟨_,_,_,_,L,_⟩:=Z;grind
     |row i l0 a8 a9=>obtain ⟨l5,bd,be,L,_⟩:=Z;simp only[TB.row.injEq] at L;obtain ⟨rfl,e5,rfl,rfl⟩:=L;cases e5;obtain ⟨l6,bh,bi,e6,b1,b2,b3,b4⟩:=K;simp only[TB.row.injEq] at e6;obtain ⟨rfl,e7,rfl,rfl⟩:=e6;cases e7;exact ⟨⟨_,_,_,rfl,by omega,by omega,λe=>by omega,λe=>by omega⟩,⟨_,_,_,rfl,.inl ⟨⟨a2,a3,e1⟩,_,pe ..⟩⟩⟩
    simp_all
   ·exact ⟨o,by grind,K,G.Mb (by simp) (by grind) (by simp)⟩
  ·rename_i ak;refine ⟨hl,λb blk e=>?_⟩;obtain ⟨o,E,K,G⟩:=hb b blk e;refine ⟨o,E,K,?_⟩;by_cases s:b=M
   ·subst s;cases o with
    |row i l lv cv=>grind
    |cells w cs=>
     cases blk with
     |cells w' a4=>
      obtain ⟨w2,av,A,l2,c2⟩:=G;refine ⟨w2,av,A,l2,λj p2 L=>?_⟩;obtain ⟨h4,O⟩:=c2 j p2 L;refine ⟨h4,?_⟩;rcases O with ⟨c,a,O,h6,h7⟩ | ⟨O,h6⟩
      ·grind
      ·refine .inr ⟨O,λc W=>?_⟩;rcases me.1 W with W | W
       ·grind
       ·exact h6 c W
     |row i l lv cv=>obtain ⟨_,_,_,A,_⟩:=G;grind
     |mp q st l v=>obtain ⟨_,_,_,_,A,_⟩:=G;grind
    |mp q st l v=>
     cases blk with
     |mp q' ax l' v'=>
      obtain ⟨j2,a5,l2,v2,A,O⟩:=G;refine ⟨j2,a5,l2,v2,A,?_⟩;rcases O with ⟨O,j',ax,h6⟩ | ⟨O,h8⟩
      ·grind
      ·refine .inr ⟨O,λj st hi=>?_⟩;rcases me.1 hi with W | W
       ·grind
       ·exact h8 j st W
     |row i l lv cv=>obtain ⟨_,_,_,A,_⟩:=G;grind
     |cells w cs=>obtain ⟨_,_,A,_⟩:=G;grind
   ·exact G.Mb (by simp) (by grind) (by simp)
 |h M j0 c0=>
  have u:∀blk,U[M]? = some blk->∃w cs w1 ad y,blk=.cells w cs/\U1[M]? = some (.cells w1 ad)/\ad[j0]? = some y/\EC c0 y.2=some x/\j0<cs.length:=by
   intro blk e;have bt:=X;simp only[Rk] at X;split at X
   ·rename_i w1 ad e1;split at X
    ·rename_i y E;obtain ⟨af,A,Z⟩:=hs M blk e;rw[e1] at A;simp only[aw] at A;subst A;cases blk with
     |cells w cs=>
      obtain ⟨_,_,L,l4,_⟩:=Z
      grind
     |row i l lv cv=>obtain ⟨_,_,_,L,_⟩:=Z;grind
     |mp q st l v=>obtain ⟨_,_,_,_,L,_⟩:=Z;grind
    simp_all
   simp_all
  simp only[PI];split
  ·rename_i w' a4 e0;refine ⟨by simp[hl],λb blk e=>?_⟩;obtain ⟨o,E,K,G⟩:=hb b blk e;by_cases s:b=M
   ·subst s;rw[e0] at E;simp only[aw] at E;subst E;obtain ⟨w,cs,w1,ad,y,rfl,A,L,e5,e6⟩:=u blk e;refine ⟨_,Gu e0,?_⟩;obtain ⟨w2,av,e7,l2,c2⟩:=G;simp only[TB.cells.injEq] at e7;obtain ⟨rfl,rfl⟩:=e7;obtain ⟨w3,a6,e8,bw,bl,bc⟩:=K;simp only[TB.cells.injEq] at e8;obtain ⟨rfl,rfl⟩:=e8;refine ⟨⟨w'+1,_,rfl,by omega,by simp[l2],λj v z v1 z1 q1 q2=>?_⟩,⟨w'+1,_,rfl,by simp[l2],λj p2 q=>?_⟩⟩
    ·grind
    ·by_cases hj:j=j0
     ·grind
     ·rw[xAj (λe=>hj e.symm)] at q;obtain ⟨q1,q2⟩:=c2 j p2 q;refine ⟨by omega,?_⟩;rcases q2 with ⟨c,a,O,h6,h7⟩ | ⟨O,h6⟩
      ·grind
      ·refine .inr ⟨O,λc W=>?_⟩;rcases me.1 W with W | W
       ·simp_all
       ·exact h6 c W
   ·exact ⟨o,by grind,K,G.Mb (by grind) (by simp) (by simp)⟩
  ·rename_i ak;refine ⟨hl,λb blk e=>?_⟩;obtain ⟨o,E,K,G⟩:=hb b blk e;by_cases s:b=M
   ·subst s;obtain ⟨w,cs,_,_,_,rfl,_⟩:=u blk e;obtain ⟨w3,a6,rfl,_⟩:=K
    simp_all
   ·exact ⟨o,E,K,G.Mb (by grind) (by simp) (by simp)⟩
 |m M j0 a0=>
  have u:∀blk,U[M]? = some blk->∃j st l v v1,blk=.mp j st l v/\U1[M]? = some (.mp j0 a0 x v1):=by
   intro blk e;simp only[Rk] at X;split at X
   ·rename_i j1 a7 l1 v1 e1;split at X
    ·rename_i a1;have a1:a0=a7:=eq_of_beq a1;obtain ⟨rfl,rfl⟩:=xF X;obtain ⟨af,A,Z⟩:=hs M blk e;rw[e1] at A;simp only[aw] at A;subst A;cases blk with
     |mp q st l v=>simp_all
     |row i l lv cv=>obtain ⟨_,_,_,L,_⟩:=Z;grind
     |cells w cs=>obtain ⟨_,_,L,_⟩:=Z;grind
    simp_all
   simp_all
  simp only[PI];split
  ·rename_i j' ax l' v' e0;refine ⟨by simp[hl],λb blk e=>?_⟩;obtain ⟨o,E,K,G⟩:=hb b blk e;by_cases s:b=M
   ·subst s;rw[e0] at E;simp only[aw] at E;subst E;obtain ⟨j,st,l,v,v1,rfl,A⟩:=u blk e;obtain ⟨_,_,_,_,L,b1,b2⟩:=K;simp only[TB.mp.injEq] at L;obtain ⟨rfl,rfl,e5,rfl⟩:=L;cases e5;exact ⟨_,Gu e0,⟨_,_,_,_,rfl,by omega,λe=>by omega⟩,⟨_,_,_,_,rfl,.inl ⟨⟨v1,A⟩,_,_,pe ..⟩⟩⟩
   ·exact ⟨o,by grind,K,G.Mb (by simp) (by simp) (by grind)⟩
  ·rename_i ak;refine ⟨hl,λb blk e=>?_⟩;obtain ⟨o,E,K,G⟩:=hb b blk e;by_cases s:b=M
   ·subst s;obtain ⟨j,st,l,v,v1,rfl,_⟩:=u blk e;obtain ⟨_,_,_,_,rfl,_⟩:=K
    grind
   ·exact ⟨o,E,K,G.Mb (by simp) (by simp) (by grind)⟩
theorem PQ.all{al1:TA}{U1 U:TH}{σD:aq}{pl:List Pl}(H:RH U σD)(hs:HS pl U U1):∀(i:List Pl)(x:qc i),Jh al1 U1 i=some x->PQ al1 U1 i U (qy i x U):=by
 intro i;induction i with
 |nil=>intro x _;exact PQ.nil H
 |cons p i ih=>
  intro x j;cases i with
  |nil=>exact PQ.step H hs p x j (PQ.nil H)
  |cons q i=>
   simp only[Jh] at j;split at j
   ·rename_i a b o s;simp only[aw] at j;subst j;exact PQ.step H hs p a o (ih b s)
   simp_all
theorem PQ.ext{al1:TA}{U1 U U2:TH}{j:List Pl}(h:PQ al1 U1 j U U2):Ext U U2:=λb blk e=>let ⟨i,o,h1,_⟩:=h.2 b blk e;⟨i,o,h1⟩
theorem PQ.hs{al1:TA}{U1 U U2:TH}{A:List Pl}(h:PQ al1 U1 A U U2)(hs:HS A U U1):HS A U U2:=λb blk e=>by
 obtain ⟨s,W,h1,E⟩:=h.2 b blk e;refine ⟨s,W,?_⟩;cases blk with
 |cells w cs=>
  obtain ⟨w2,G,rfl,u,X⟩:=E;refine ⟨w2,G,rfl,u,λj p p1 q Z x=>?_⟩;rcases (X j p1 Z).2 with ⟨c,a,_,_,z⟩ | ⟨o,_⟩
  ·exact absurd z (x c)
  simp_all
 |row i l lv cv=>
  obtain ⟨u,K,L,rfl,o⟩:=E;refine ⟨u,K,L,rfl,λx=>?_⟩;rcases o with ⟨_,i',z⟩ | ⟨o,h4,h5,_⟩
  ·exact absurd z (x i')
  simp_all
 |mp j st l v=>
  obtain ⟨j2,M,u,v2,rfl,o⟩:=E;refine ⟨j2,M,u,v2,rfl,λx=>?_⟩;rcases o with ⟨_,j',O,z⟩ | ⟨o,_⟩
  ·exact absurd z (x j' O)
  omega
end
end Go.Abs
end
section
namespace Go.Abs
noncomputable section
variable[Gl][Y:Ty]
theorem OD(t:Nat):∀(al:TA),OW t al=(dV t al).map Prod.fst:=by
 intro al;induction al with
 |nil=>rfl
 |cons y al ih=>grind [OW,dV]
theorem oQ{t:Nat}{al:TA}{x:RV}(h:OW t al=some x):∃p,dV t al=some (x,p):=by grind [OD,Option.map_eq_some_iff]
theorem oZ{t:Nat}{q:RV×Nat}:∀{pre al:TA},(∀y∈pre,y.1≠t)->dV t al=some q->dV t (pre++al)=some q:=by
 intro pre al;induction pre with
 |nil=>simp_all
 |cons z pre ih=>grind [dV,Nat.eq_of_beq_eq_true]
theorem yo{t:Nat}{q:RV×Nat}:∀{pre al:TA},dV t al=some q->∃a,dV t (pre++al)=some a:=by
 intro pre al;induction pre with
 |nil=>simp_all
 |cons z pre ih=>
  intro h;obtain ⟨s,y⟩:=z;simp only[List.cons_append,dV]
  grind
theorem SY{al1:TA}{U1:TH}{al:TA}{t:Nat}{v:RV}{p:Nat}:∀(f:List Pl)(x:qc f),Jh al1 U1 f=some x->dV t (FJ f x al)=some (v,p) ->
  (∃c a,v=.v (c.tv a)/\Rk al1 U1 (.r t c)=some a)∨((∀c,Pl.r t c∉f)/\dV t al=some (v,p)):=by
 have one:∀(p0:Pl)(x:p0.dn)(al0:TA),Rk al1 U1 p0=some x->dV t (Sx p0 x al0)=some (v,p)->(∃c a,v=.v (c.tv a)/\Rk al1 U1 (.r t c)=some a)∨((∀c,Pl.r t c≠p0)/\dV t al0=some (v,p)):=by
  intro p0 x al0 l h;cases p0 with
  |r z c=>
   simp only[Sx,dV] at h;split at h
   ·grind [Nat.eq_of_beq_eq_true]
   ·rename_i o;refine .inr ⟨λA e=>?_,h⟩
    simp_all
  |w b i=>exact .inr ⟨λc e=>by simp at e,h⟩
  |h b j c=>exact .inr ⟨λc e=>by simp at e,h⟩
  |m b j st=>exact .inr ⟨λc e=>by simp at e,h⟩
 intro f;induction f with
 |nil=>intro x _ h;exact .inr ⟨λc E=>by grind,h⟩
 |cons p0 f ih=>
  intro x l h;cases f with
  |nil=>
   rcases one p0 x al l h with h | ⟨s,u⟩
   ·simp_all
   simp_all
  |cons q f=>
   simp only[Jh] at l;split at l
   ·rename_i a b y o;simp only[aw] at l;subst l;rcases one p0 a _ y h with h | ⟨s,u⟩
    ·simp_all
    simp_all
   simp_all
theorem FN:∀(a:List Pl)(x:qc a)(al:TA),∃pre,FJ a x al=pre++al/\∀y∈pre,∃c,Pl.r y.1 c∈a:=by
 have one:∀(p0:Pl)(x:p0.dn)(al:TA),∃pre,Sx p0 x al=pre++al/\∀y∈pre,∃c,Pl.r y.1 c=p0:=by
  intro p0 x al;cases p0 with
  |r t c=>exact ⟨[(t,.v (c.tv x))],rfl,λy f=>by simp_all⟩
  |w b i=>exact ⟨[],rfl,λy f=>by grind⟩
  |h b j c=>exact ⟨[],rfl,λy f=>by grind⟩
  |m b j st=>exact ⟨[],rfl,λy f=>by grind⟩
 intro a;induction a with
 |nil=>intro x al;exact ⟨[],rfl,λy f=>by grind⟩
 |cons p0 a ih=>
  intro x al;cases a with
  |nil=>obtain ⟨pre,l,o⟩:=one p0 x al;exact ⟨pre,l,λy f=>let ⟨c,e⟩:=o y f;⟨c,by simp_all⟩⟩
  |cons q a=>
   obtain ⟨pre,l,o⟩:=ih x.2 al;obtain ⟨p,s,u⟩:=one p0 x.1 (FJ (q::a) x.2 al)
   grind [FJ]
theorem Jc(U:TH):∀(hs:List (Nat×Nat))(al:TA),∃pre,Lr U hs al=pre++al/\(∀y∈pre,∃b i l a e,(y.1,b)∈hs/\U[b]? = some (.row i l a e)/\y.2=.v (.c (.own i b a l.length))) /\
  ∀t b i l a e,(t,b)∈hs->U[b]? = some (.row i l a e)->∃y∈pre,y.1=t:=by
 intro hs;induction hs with
 |nil=>intro al;exact ⟨[],rfl,λy j=>by grind,λt b i l a e h=>by simp at h⟩
 |cons h hs ih=>
  intro al;obtain ⟨t,b⟩:=h;obtain ⟨pre,p,s,u⟩:=ih al;have o:∀y∈pre,∃f i l a e,(y.1,f)∈(t,b)::hs/\U[f]? = some (.row i l a e)/\y.2=.v (.c (.own i f a l.length)):=λy j=>by grind
  simp only[Lr];split
  ·grind [List.mem_cons_self]
  grind
theorem NC{t:Nat}{x:RV}{p:Nat}:∀{pre al:TA},dV t (pre++al)=some (x,p)->(t,x)∈pre∨((∀y∈pre,y.1≠t)/\dV t al=some (x,p)):=by
 intro pre al;induction pre with
 |nil=>simp_all
 |cons z pre ih=>
  intro h;obtain ⟨s,y⟩:=z;simp only[List.cons_append,dV] at h;split at h
  ·simp_all
  ·rename_i f;rcases ih h with h | ⟨i,b⟩
   ·simp_all
   ·refine .inr ⟨λy a=>?_,b⟩;rcases me.1 a with rfl | a
    ·intro e;simp_all
    grind
theorem FF(md:List Nat)(al:TA):∃pre,EG md al=pre++al/\(∀y∈pre,y.1∈md/\(OW y.1 al).isSome/\y.2=.v (.c .any))/\∀t,t∈md->(OW t al).isSome->∃y∈pre,y.1=t:=by
 refine ⟨_,rfl,λy b=>?_,λt a hs=>?_⟩
 ·grind
 ·exact ⟨(t,.v (.c .any)),jJ.2 ⟨t,S_.2 ⟨a,hs⟩,rfl⟩,rfl⟩
theorem aH.sF{α i:Type}{R:α->i->Prop}:∀{l:List α}{m:List i},l.length=m.length->(∀(j:Nat) a b,l[j]? = some a->m[j]? = some b->R a b)->aH R l m:=by
 intro l;induction l with
 |nil=>intro m h _;cases m with | nil=>exact .nil | cons b m=>simp at h
 |cons a l ih=>
  intro m h o;cases m with
  |nil=>simp at h
  |cons b m=>exact .cons (o 0 a b rfl rfl) (ih (by simp_all) λj x y s u=>o (j+1) x y s u)
theorem Vq.UG{α:Type}{f:α->List C}{l:List α}{m:Nat}:Vq m (OB f l) (OB f l):=by refine ⟨_,rfl,aH.sF rfl λj a b i o=>?_⟩;rw[i] at o;simp only[aw] at o;subst o;rw[jX,cu] at i;obtain ⟨c,_,rfl⟩:=i;exact kh.low rfl
theorem Gp(j:Nat)(st:Bool)(a:TT j)(m:Nat):(Jx j st a).low m=true:=by
 unfold Jx;split
 ·exact Sp _
 ·rfl
theorem Hj{α:Type}{g:α->D}{m:Nat}(h:∀a,(g a).low m=true):∀(l:List (Int×α))(i:Nat),((yJ g i l).all λe=>e.2.1.low m)=true:=by
 intro l;induction l with
 |nil=>intro i;rfl
 |cons x l ih=>grind [yJ]
theorem Yd{al:TA}{U:TH}{hs:List (Nat×Nat)}(h:UU al U hs=true){t b:Nat}(f:(t,b)∈hs):∃i v q j l a e,OW t al=some (.v (.c (.own i b v q)))/\U[b]? = some (.row j l a e)/\v=a/\i=j:=by
 simp only[UU,gH] at h;have:=h (t,b) f;dsimp only at this;split at this
 ·rename_i i o v q j l a e p s;simp only[bJ] at this
  grind [Nat.eq_of_beq_eq_true]
 simp_all
theorem HS.mono{pl o:List Pl}{U U1:TH}(E:∀p∈pl,p∈o)(h:HS pl U U1):HS o U U1:=λb blk e=>by
 obtain ⟨u,W,s⟩:=h b blk e;refine ⟨u,W,?_⟩;cases blk with
 |cells w cs=>obtain ⟨w1,G,e,l,c⟩:=s;exact ⟨w1,G,e,l,λj p p1 x y z=>c j p p1 x y λq A=>z q (E _ A)⟩
 |row i l lv cv=>obtain ⟨K,L,M,e,c⟩:=s;exact ⟨K,L,M,e,λz=>c λq A=>z q (E _ A)⟩
 |mp j st l v=>obtain ⟨X,O,K,Z,e,c⟩:=s;exact ⟨X,O,K,Z,e,λz=>c λq st A=>z q st (E _ A)⟩
theorem PQ.hs'{al1:TA}{U1 U U2:TH}{W pl:List Pl}(h:PQ al1 U1 W U U2)(A:∀p∈W,p∈pl):HS pl U U2:=λb blk e=>by
 obtain ⟨o,X,h1,E⟩:=h.2 b blk e;refine ⟨o,X,?_⟩;cases blk with
 |cells w cs=>
  obtain ⟨w2,G,rfl,s,Z⟩:=E;refine ⟨w2,G,rfl,s,λj p p1 q q1 u=>?_⟩;rcases (Z j p1 q1).2 with ⟨c,a,_,_,x⟩ | ⟨z,_⟩
  ·exact absurd (A _ x) (u c)
  simp_all
 |row i l lv cv=>
  obtain ⟨s,K,L,rfl,z⟩:=E;refine ⟨s,K,L,rfl,λu=>?_⟩;rcases z with ⟨_,i',x⟩ | ⟨h4,h5,h6,_⟩
  ·exact absurd (A _ x) (u i')
  simp_all
 |mp j st l v=>
  obtain ⟨j2,M,s,v2,rfl,z⟩:=E;refine ⟨j2,M,s,v2,rfl,λu=>?_⟩;rcases z with ⟨_,j',O,x⟩ | ⟨h4,_⟩
  ·exact absurd (A _ x) (u j' O)
  omega
structure ZOk (zs:List (Nat×Nat×Nat)) (U U':TH):Prop where
 len:U'.length=U.length
 row:∀(b:Nat) i (l:List (TT i)) lv cv,U[b]? = some (.row i l lv cv)↔U'[b]? = some (.row i l lv cv)
 mp:∀(b:Nat) j st (l:List (Int×TT j)) v,U[b]? = some (.mp j st l v)->U'[b]? = some (.mp j st l v)
 cells:∀(b:Nat) w cs,U[b]? = some (.cells w cs)->∃w' cs',U'[b]? = some (.cells w' cs')/\w<=w'/\cs'.length=cs.length/\∀(j:Nat) p',cs'[j]? = some p' ->
  (cs[j]? = some p'/\∀r,(b,j,r)∈zs->∀i l lv cv,U[r]?≠some (.row i l lv cv))∨(∃r i l lv cv,(b,j,r)∈zs/\U[r]? = some (.row i l lv cv)/\p'.2=.own i r lv l.length/\w<p'.1/\p'.1<=w')
theorem Kc:∀(p:List (Nat×Nat×Nat))(U:TH),ZOk p U (Jy p U):=by
 intro p;induction p with
 |nil=>intro U;exact ⟨rfl,λb i l a f=>Iff.rfl,λb j st l v h=>h,λb w s h=>⟨w,s,h,cT _,rfl,λj p' N=>.inl ⟨N,λr hr=>by grind⟩⟩⟩
 |cons z p ih=>
  intro U;obtain ⟨E,O,T⟩:=z;simp only[Jy];split
  ·rename_i A u W X x ad hb hr;have Z:=ih (U.set E (.cells (A+1) (u.set O (A+1,.own W T x X.length))));have y:∀(b:Nat) i (l:List (TT i)) a f,U[b]? = some (.row i l a f)↔(U.set E (.cells (A+1) (u.set O (A+1,.own W T x X.length))))[b]? = some (.row i l a f):=λb i l a f=>by
    grind
   refine ⟨by rw[Z.len,SU],λb i l a f=>(y b i l a f).trans (Z.row b i l a f),λb j st l v h=>Z.mp b j st l v ?_,λb w s h=>?_⟩
   ·grind
   ·by_cases e:b=E
    ·subst e;rw[hb] at h;simp only[aw,TB.cells.injEq] at h;obtain ⟨rfl,rfl⟩:=h;obtain ⟨G,o,K,L,M,h4⟩:=Z.cells b _ _ (Gu hb)
     grind
    ·obtain ⟨G,o,K,L,M,h4⟩:=Z.cells b w s (by grind)
     grind
  ·rename_i af;have Z:=ih U;refine ⟨Z.len,Z.row,Z.mp,λb w s h=>?_⟩;obtain ⟨G,o,K,L,M,h4⟩:=Z.cells b w s h;refine ⟨G,o,K,L,M,λj p' N=>?_⟩
   grind
theorem ZOk.ext{s:List (Nat×Nat×Nat)}{U U':TH}(Z:ZOk s U U'):Ext U U':=λb blk h=>by
 cases blk with
 |cells w u=>
  obtain ⟨z,o,A,E,G,M⟩:=Z.cells b w u h;refine ⟨_,A,z,o,rfl,E,G,λj v x O W e X=>?_⟩
  grind
 |row i l K L=>exact ⟨_,(Z.row b i l K L).1 h,BE.refl _⟩
 |mp j st l v=>exact ⟨_,Z.mp b j st l v h,BE.refl _⟩
theorem Yu{a:List (Nat×Nat×Nat)}{b j r:Nat}(h:(b,j,r)∈a):Pl.h b j .bool∈LU a:=jJ.2 ⟨_,h,rfl⟩
theorem ZOk.hs{s:List (Nat×Nat×Nat)}{U U':TH}(Z:ZOk s U U'):HS (LU s) U U':=λb blk h=>by
 cases blk with
 |cells w u=>
  obtain ⟨x,o,z,W,A,E⟩:=Z.cells b w u h;refine ⟨_,z,x,o,rfl,A,λj p p1 e G K=>?_⟩;rcases E j _ G with ⟨X,_⟩ | ⟨r,_,_,_,_,L,_⟩
  ·simp_all
  ·exact absurd (Yu L) (K _)
 |row i l M O=>exact ⟨_,(Z.row b i l M O).1 h,_,_,_,rfl,λ_=>⟨rfl,rfl,rfl⟩⟩
 |mp j st l v=>exact ⟨_,Z.mp b j st l v h,_,_,_,_,rfl,λ_=>rfl⟩
theorem Oa{n:Nat}{U:TH}{f:List (Nat×Nat×Nat)}(h:SP n U f=true){b j r:Nat}(s:(b,j,r)∈f):b<n/\r<n/\∃w cs i l a o q p,U[b]? = some (.cells w cs)/\U[r]? = some (.row i l a o)/\cs[j]? = some (p,.own i r a q):=by
 simp only[SP,gH] at h;have:=h (b,j,r) s;simp only[bJ] at this;obtain ⟨u,x,e⟩:=this;refine ⟨yh.mp u,yh.mp x,?_⟩;split at e
 ·rename_i w cs i l a o y z;split at e
  ·rename_i p A E v q G;simp only[bJ] at e
   grind [Nat.eq_of_beq_eq_true]
  grind
 grind
theorem qe{h:JH}{md:List Nat}{al al1:TA}{U U1:TH}{alD ak:AL}{σD σD1:aq}{x:qc h.pl}(R0:Ref al U alD σD)(X:Ref al1 U1 ak σD1)
  (bd:∀t q,dV t al=some q->∃q',dV t al1=some q')
  (hk:∀t q,t∉md->(∀c,Pl.r t c∉h.pl)->(∀b,(t,b)∈h.hs->∀i l N O,U[b]?≠some (.row i l N O))->dV t al=some q->dV t al1=some q)
  (hs:HS (h.pl++LU h.zs) U U1) (hh:UU al1 U1 h.hs=true) (hz:SP U.length U1 h.zs=true) (hx:Jh al1 U1 h.pl=some x) :
  Ext U (cH h md al U x)/\HS (h.pl++LU h.zs) U (cH h md al U x)/\(cH h md al U x).length=U.length/\∃av ax,r_ U.length ak σD1 av ax/\Ref (fx h md al U x) (cH h md al U x) av ax:=by
 have o:=PQ.all R0.hh hs h.pl x hx;have Z:=Kc h.zs (qy h.pl x U);have ext:Ext U (cH h md al U x):=Ext.trans R0.hh o.ext Z.ext;have len:(cH h md al U x).length=U.length:=Z.len.trans o.1;refine ⟨ext,(o.hs' λp hp=>Zk _ hp).trans (Z.hs.mono λp hp=>yB7 _ hp),len,?_⟩;have bh:∀(b i i1 N O ad af:Nat)(l:List (TT i))(l1:List (TT i1)),(qy h.pl x U)[b]? = some (.row i l N O)->U1[b]? = some (.row i1 l1 ad af)->i1=i/\l.length=l1.length:=by
  intro b i i1 N O ad af l l1 m2 n2;have u:b<U.length:=by rw[<-o.1];grind
  obtain ⟨f,T⟩:∃f,U[b]? = some f:=⟨_,dB u⟩;obtain ⟨s,G,be,z⟩:=o.2 b f T;rw[m2] at G;simp only[aw] at G;subst G;obtain ⟨L,W,E⟩:=hs b f T;rw[n2] at W;simp only[aw] at W;subst W;cases f with
  |cells w cs=>obtain ⟨_,_,e,_⟩:=E;simp at e
  |mp q st l v=>obtain ⟨_,_,_,_,e,_⟩:=E;simp at e
  |row i0 l0 b7 b8=>
   obtain ⟨l5,ch,ck,e5,E⟩:=E;simp only[TB.row.injEq] at e5;obtain ⟨rfl,e6,rfl,rfl⟩:=e5;cases e6;obtain ⟨l6,cm,co,e7,z⟩:=z;simp only[TB.row.injEq] at e7;obtain ⟨rfl,e8,rfl,rfl⟩:=e7;cases e8;refine ⟨rfl,?_⟩;rcases z with ⟨⟨a0,a2,e9⟩,_⟩ | ⟨rfl,_,_,hn⟩
   ·simp_all
   ·by_cases c0:YN (h.pl++LU h.zs) b
    ·simp_all
    ·exact absurd (λi A=>by
      rcases zC.1 A with A | A
      ·exact hn i A
      grind [LU]) c0
 obtain ⟨bi,es,c3,eb⟩:=FF md al;obtain ⟨bt,eh,c4,ec⟩:=Jc (qy h.pl x U) h.hs (EG md al);obtain ⟨bu,ep,ef⟩:=FN h.pl x (Lr (qy h.pl x U) h.hs (EG md al));have bv:fx h md al U x=(bu++(bt++bi))++al:=by grind [fx]
 have d9:Ext U (qy h.pl x U):=o.ext;have c5:(cH h md al U x).length<=σD1.length:=by
  rw[len,X.hh.len];rcases uS U1.length U.length with u | eg
  ·obtain ⟨L,e,_⟩:=hs U1.length _ (dB u)
   grind
  omega
 have gw:∀{v:TV},GV (cH h md al U x) v->GW (fx h md al U x) (cH h md al U x) (.v v):=λg=>g;rw[<-len];refine stw_of c5 (λt v p ht=>?_) (λb s bw=>?_) (λb w2 M bw q hq=>?_)
 ·
  rcases SY h.pl x hx ht with ⟨c,a,rfl,hr⟩ | ⟨c6,ht⟩
  ·simp only[Rk] at hr;split at hr
   ·rename_i v1 h1;obtain ⟨p1,h2⟩:=oQ h1;obtain ⟨K,h3,h4,_⟩:=X.rg t _ p1 h2;exact ⟨Ho c a,K,c.enc a,h3,rdV_wk hr h4,c.Tv a⟩
   grind
  ·rw[eh] at ht;rcases NC ht with hm | ⟨ei,ht⟩
   ·obtain ⟨b,i,l,N,O,m1,m2,m3⟩:=c4 _ hm;dsimp only at m1 m3;subst m3;obtain ⟨i1,v1,q1,j1,l1,ad,af,n1,n2,n3,n4⟩:=Yd hh m1;subst n3;obtain ⟨p1,n5⟩:=oQ n1;obtain ⟨K,n6,n7,n8⟩:=X.rg t _ p1 n5;obtain ⟨rfl,rfl⟩:=mZ X.hh n8 n2 (by simp);clear n4;have c7:=(Z.row b _ _ _ _).1 m2;have u:b<U.length:=by rw[<-o.1];grind
    obtain ⟨f,T⟩:∃f,U[b]? = some f:=⟨_,dB u⟩;obtain ⟨s,G,be,z⟩:=o.2 b f T;rw[m2] at G;simp only[aw] at G;subst G;obtain ⟨L,W,E⟩:=hs b f T;rw[n2] at W;simp only[aw] at W;subst W;cases f with
    |cells w cs=>obtain ⟨_,_,e,_⟩:=E;simp at e
    |mp q st l v=>obtain ⟨_,_,_,_,e,_⟩:=E;simp at e
    |row i0 l0 b7 b8=>
     obtain ⟨l5,ch,ck,e5,E⟩:=E;simp only[TB.row.injEq] at e5;obtain ⟨rfl,e6,rfl,rfl⟩:=e5;cases e6;obtain ⟨l6,cm,co,e7,z⟩:=z;simp only[TB.row.injEq] at e7;obtain ⟨rfl,e8,rfl,rfl⟩:=e7;cases e8;have a3:l=l1:=by
      rcases z with ⟨⟨a0,a2,e9⟩,_⟩ | ⟨rfl,_,_,hn⟩
      ·grind
      ·exact (E λi A=>by
        rcases zC.1 A with A | A
        ·exact hn i A
        grind [LU]).1.symm
     subst a3;refine ⟨⟨_,c7,λj l' c8 c9 e=>?_⟩,K,K,n6,?_,?_⟩
     ·grind
     ·rw[RT.c1 (by simp) n7];refine kh.low ?_;simp only[TC.er,D.low,bb];omega
     ·have:=RT.c1 (by simp) n7;rw[this];exact Or.inr rfl
   ·rw[es] at ht;rcases NC ht with hm | ⟨ej,ht⟩
    ·obtain ⟨m1,m2,m3⟩:=c3 _ hm;dsimp only at m1 m2 m3;subst m3;rw[ZV] at m2;obtain ⟨y,hy⟩:=m2;obtain ⟨p1,n1⟩:=oQ hy;obtain ⟨⟨y',p'⟩,n2⟩:=bd t _ n1;obtain ⟨K,n3,_⟩:=X.rg t y' p' n2;exact ⟨True.intro,K,.any,n3,kh.any _ _,Or.inl rfl⟩
    ·have da:t∉md:=λhm=>by
      grind [OD]
     have b0:∀b,(t,b)∈h.hs->∀i l N O,U[b]?≠some (.row i l N O):=by
      intro b hb i l N O e;obtain ⟨s,G,be,_⟩:=o.2 b _ e;obtain ⟨l2,a4,a5,rfl,_⟩:=be
      grind
     have h1:=hk t _ da c6 b0 ht;obtain ⟨K,n3,n4,_⟩:=X.rg t v p h1;obtain ⟨_,_,_,n5⟩:=R0.rg t v p ht;obtain ⟨d2,n6,n7⟩:=Zp n4 n5;refine ⟨?_,K,d2,n3,by grind,n7⟩;rw[bv];exact n5.mono ext _
 ·
  have u:b<U.length:=by grind
  obtain ⟨f,T⟩:∃f,U[b]? = some f:=⟨_,dB u⟩;obtain ⟨a6,G,be,z⟩:=o.2 b f T;obtain ⟨L,W,E⟩:=hs b f T;obtain ⟨db,o1,o2⟩:=X.hh.hp b L W;refine ⟨db,?_⟩;cases f with
  |cells w cs=>
   obtain ⟨w1,a7,rfl,l1,c1⟩:=E;obtain ⟨ek,ea,rfl,dc,dd⟩:=z;obtain ⟨w2,M,ez,_,b1,a8⟩:=Z.cells b _ _ G;have:s=.cells w2 M:=by grind [cH]
   subst this;have l2:M.length=cs.length:=b1.trans dc;obtain ⟨a9,o3,a1,_,_⟩:=X.hh.cells W;rw[o1] at o3;simp only[aw] at o3;subst o3;have df:aH (λ(p:Nat×TC) d=>RC p.2 d) a7 a9:=by cases o2;refine aH.sF (by simp) λj p d h1 h2=>?_;rw[jX,h1] at h2;simp only[Option.map_some,aw] at h2;exact .inr h2.symm
   clear o2 a1;have a1:=df;have hl:a9.length=M.length:=by omega
   obtain ⟨es,el,eo⟩:=Ah (p:=λj e=>∃p2 K,M[j]? = some p2/\a9[j]? = some K/\kh (cH h md al U x).length K e/\e=p2.2.er) M.length λj hj=>by
    have q2:=dB hj;have q1:a7[j]? = some _:=dB (by omega);obtain ⟨K,q3,q4⟩:=a1.get j _ q1;rcases a8 j _ q2 with ⟨z1,z2⟩ | ⟨r,i,l,N,O,z1,z2,z3,_⟩
    rotate_left
    ·obtain ⟨_,_,w9,di,i9,l9,b2,dp,q9,v9,y1,y2,y3⟩:=Oa hz z1;rw[W] at y1;simp only[aw,TB.cells.injEq] at y1;obtain ⟨_,rfl⟩:=y1;rw[q1] at y3;simp only[aw] at y3;have g9:=(X.hh.hg b w1 a7 W _ (yl q1)).1;rw[y3] at q4 g9;obtain ⟨t1,t2⟩:=bh r i i9 _ _ _ _ _ _ z2 y2;subst t1;obtain ⟨_,t3⟩:=mZ X.hh g9 y2 (by simp);have b3:K=OS (aA i9) r q9:=RT.c1 (x:=.own i9 r b2 q9) (by simp) q4;have hr:r<U.length:=by omega
     refine ⟨K,_,K,q2,q3,?_,?_⟩
     ·rw[b3];refine kh.low ?_;simp only[OS,D.low,bb];omega
     ·rw[b3,z3,t3,<-t2];rfl
    obtain ⟨_,q5⟩:=dd j _ z1;rcases q5 with ⟨c,a,q5,q6,_⟩ | ⟨q5,q6⟩
    ·grind [Rk,rdC_wk,kU]
    ·have:=c1 j _ _ q5 q1 λc hc=>by
      rcases zC.1 hc with hc | hc
      ·exact q6 c hc
      ·simp only[LU,jJ] at hc;obtain ⟨⟨b9,j9,r9⟩,hm,e9⟩:=hc;simp only[Pl.h.injEq] at e9;obtain ⟨rfl,rfl,_⟩:=e9;obtain ⟨_,hr,w9,di,i9,l9,b2,dp,q9,v9,y1,y2,y3⟩:=Oa hz hm;obtain ⟨b4,y4⟩:∃blk,U[r9]? = some blk:=⟨_,dB hr⟩;obtain ⟨d0,y5,b5⟩:=hs r9 _ y4;rw[y2] at y5;simp only[aw] at y5;subst y5;cases b4 with
       |cells w cs=>obtain ⟨_,_,e,_⟩:=b5;simp at e
       |mp q st l v=>obtain ⟨_,_,_,_,e,_⟩:=b5;simp at e
       |row i8 l8 et eu=>
        obtain ⟨b6,y6,d5,_⟩:=o.2 r9 _ y4;obtain ⟨l7,a0,a2,rfl,_⟩:=d5
        grind
     rw[this] at q4;exact ⟨_,_,K,q2,q3,by rw[len];exact Uo q4 (R0.hh.hg b w cs T _ (yl q5)).1,rfl⟩
   refine ⟨.cells es,o1,⟨es,rfl,aH.sF (by omega) λj d e h1 h2=>?_⟩,?_⟩
   ·grind
   ·unfold RB TB.er;congr 1;apply Rg
    grind
  |row i l N O=>
   obtain ⟨l1,ad,af,rfl,E⟩:=E;obtain ⟨l2,a4,a5,rfl,z⟩:=z;have:s=.row i l2 a4 a5:=by
    have e3:(cH h md al U x)[b]? = some (.row i l2 a4 a5):=(Z.row b _ _ _ _).1 G
    grind
   subst this;have a3:l2=l1:=by
    rcases z with ⟨⟨a0,a2,e9⟩,_⟩ | ⟨rfl,_,_,hn⟩
    ·grind
    ·exact (E λi A=>by
      rcases zC.1 A with A | A
      ·exact hn i A
      grind [LU]).1.symm
   subst a3;cases o2;exact ⟨_,o1,Vq.UG,rfl⟩
  |mp j st l v=>
   obtain ⟨j1,d6,l1,v1,rfl,E⟩:=E;obtain ⟨j2,bc,l2,v2,rfl,z⟩:=z;have:s=.mp j2 bc l2 v2:=by
    have e3:(cH h md al U x)[b]? = some (.mp j2 bc l2 v2):=Z.mp b _ _ _ _ G
    grind
   subst this;have d7:j2=j1/\bc=d6/\HEq l2 l1:=by
    rcases z with ⟨⟨v7,e9⟩,_⟩ | ⟨e9,hn⟩
    ·grind
    ·have ew:=E λj st A=>by
      rcases zC.1 A with A | A
      ·exact hn j st A
      grind [LU]
     grind
   obtain ⟨rfl,rfl,hl⟩:=d7;cases hl;cases o2;exact ⟨_,o1,⟨rfl,Hj (λa=>Gp _ _ _ _) _ _⟩,rfl⟩
 ·
  have u:b<U.length:=by grind
  obtain ⟨f,T⟩:∃f,U[b]? = some f:=⟨_,dB u⟩;obtain ⟨a6,G,be,z⟩:=o.2 b f T;cases f with
  |cells w cs=>
   obtain ⟨w3,ex,rfl,l2,c2⟩:=z;obtain ⟨w4,d8,ez,hw,b1,a8⟩:=Z.cells b _ _ G;have e3:(cH h md al U x)[b]? = some (.cells w4 d8):=ez;rw[bw] at e3;simp only[aw,TB.cells.injEq] at e3;obtain ⟨rfl,rfl⟩:=e3;obtain ⟨j,hj⟩:=yBr hq;rcases a8 j q hj with ⟨z1,_⟩ | ⟨r,i,l,N,O,_,z2,z3,_,z4⟩
   ·obtain ⟨r1,r2⟩:=c2 j q z1;refine ⟨?_,mA r1 hw⟩;rcases r2 with ⟨c,a,r2,_⟩ | ⟨r2,_⟩
    ·grind [uO]
    ·exact (R0.hh.hg b w cs T q (yl r2)).1.mono ext
   ·refine ⟨?_,z4⟩;rw[z3];refine ⟨_,(Z.row r _ _ _ _).1 z2,λj l' c8 c9 e=>?_⟩
    grind
  |row i l N O=>
   obtain ⟨_,_,_,rfl,_⟩:=z;have e3:=(Z.row b _ _ _ _).1 G
   grind [cH]
  |mp j st l v=>
   obtain ⟨_,_,_,_,rfl,_⟩:=z;have e4:(cH h md al U x)[b]? = _:=Z.mp b _ _ _ _ G
   grind
end
end Go.Abs
end
section
namespace Go.Abs
noncomputable section
variable[Gl][Y:Ty]
theorem Sc(m:Nat)(U:TH)(al:TA):∀(pre:TA),WD m U pre.length (pre++al)=pre.map (λp=>(p.1,AH m U p.2))++al:=by
 intro pre;induction pre with
 |nil=>cases al <;> rfl
 |cons x pre ih=>grind [WD]
theorem WL{m:Nat}{U:TH}{al:TA}{t:Nat}{x:RV}{p:Nat}:∀{pre:TA},dV t (pre.map (λp=>(p.1,AH m U p.2))++al)=some (x,p) ->
  (∃a,dV t (pre++al)=some (a,p)/\x=AH m U a)∨(dV t (pre++al)=some (x,p)/\dV t al=some (x,p)):=by
 intro pre;induction pre with
 |nil=>simp_all
 |cons y pre ih=>
  intro h;obtain ⟨s,y⟩:=y;simp only[oK,List.cons_append,dV] at h ⊢
  grind
theorem XB{j:Nat}{st:Bool}(l:List (Int×TT j)):((yJ (Jx j st) 0 l).all λe=>e.2.1.low 0)=true:=Hj (λa=>Gp _ _ _ _) _ _
variable{m:Nat}{U1:TH}{σD1:aq}
theorem er_low{x:TC}(h:okC m x=true)(e:x≠.any):x.er.low m=true:=by
 cases x with
 |any=>simp_all
 |d x=>exact h
 |own i b v n=>simpa[okC,TC.er,OS,D.low] using h
 |op i b v n k a o=>simpa[okC,TC.er,D.low] using h
 |ap b off len sz k=>simpa[okC,TC.er,D.low] using h
 |os i b v n f len=>simpa[okC,TC.er,D.low] using h
 |DQ g j=>exact yx h
 |_=>rfl
def LW(m:Nat)(σD1:aq)(b:Nat):Prop:=m<=b/\∃(i:Nat)(l:List (TT i)),σD1[b]? = some (OB (enc i) l)
theorem YH(H:RH U1 σD1)(M:m<=U1.length)(x:(U1.take m).all (okB m)=true):Oq m σD1 (σD1.take m) id (LW m σD1):=by
 have y:(σD1.take m).length=m:=by grind [RH.len]
 have get:∀i,i<m->∀u,σD1[i]? = some u->(σD1.take m)[i]? = some u:=λi f u h=>by grind
 have N:Rn m σD1 (σD1.take m) id (LW m σD1):=⟨by omega,λi _=>rfl,λi j _ _ e=>e,λi f h=>by rw[y] at f;have:=h.1;grind,λb h=>h.2,λi f=>by
  rw[y] at f;have z:σD1[i]? = some _:=dB (by grind)
  grind⟩
 refine ⟨N,λi f=>?_⟩;rw[y] at f;have A:i<U1.length:=by omega
 obtain ⟨u,z,E⟩:=H.hp i _ (dB A);refine ⟨u,u,z,get i f _ z,?_⟩;unfold RB at E;subst E;have hk:okB m U1[i]=true:=gH.1 x _ (yl (i:=i) (by simp_all));cases G:U1[i] with
 |cells w O=>
  rw[G] at hk;refine ⟨_,rfl,aH.sF rfl λj a b o s=>?_⟩;rw[o] at s;simp only[aw] at s;subst s;rw[jX,cu] at o;obtain ⟨p,K,rfl⟩:=o;have:=gH.1 hk p (yl K);by_cases L:p.2=.any
  ·rw[L];exact c_.any _
  grind [c_.low,er_low]
 |row i l T W=>refine ⟨_,rfl,aH.sF rfl λj a b o s=>?_⟩;rw[o] at s;simp only[aw] at s;subst s;rw[jX,cu] at o;obtain ⟨c,_,rfl⟩:=o;exact c_.data N rfl
 |mp j st l v=>exact ⟨rfl,XB l⟩
theorem oM{i:Nat}(a:i<m){blk:TB}(h:U1[i]? = some blk):(U1.take m)[i]? = some blk:=by simp_all
theorem NN(H:RH U1 σD1)(O:m<=U1.length)(N:Rn m σD1 (σD1.take m) id (LW m σD1)){x:TC}{d:D}(K:RC x d)(y:GC U1 x) :
  ∃s,c_ σD1 (σD1.take m) id (LW m σD1) d s/\RC (AN m U1 x) s/\GC (U1.take m) (AN m U1 x):=by
 have T:(U1.take m).length=m:=by simp_all
 rcases K with rfl | rfl
 ·exact ⟨.any,c_.any _,.inl rfl,True.intro⟩
 have any:∃s,c_ σD1 (σD1.take m) id (LW m σD1) x.er s/\RC .any s/\GC (U1.take m) .any:=⟨.any,c_.any _,.inl rfl,True.intro⟩;have u:∀{b:Nat},Nat.blt b m=true->b<m:=λh=>yh.mp h;cases x with
 |any=>exact any
 |d x=>
  simp only[AN];split
  ·rename_i h;exact ⟨x,c_.low N h,.inr rfl,by show x.low _=true;simp_all⟩
  omega
 |b e=>exact ⟨_,c_.data N rfl,.inr rfl,True.intro⟩
 |sl i l=>exact ⟨_,c_.data N rfl,.inr rfl,True.intro⟩
 |fp i a o=>exact ⟨_,c_.data N rfl,.inr rfl,True.intro⟩
 |fl n=>exact ⟨_,c_.data N rfl,.inr rfl,True.intro⟩
 |cx a b=>exact ⟨_,c_.data N rfl,.inr rfl,True.intro⟩
 |own i b v n=>
  simp only[AN];obtain ⟨blk,f,p⟩:=y;split
  ·rename_i h;exact ⟨_,c_.low N (by simpa[TC.er,OS,D.low] using u h),.inr rfl,blk,oM (u h) f,p⟩
  ·rename_i h;split
   ·rename_i j l W X z;rw[f] at z;simp only[aw] at z;subst z;split
    ·rename_i A;have A:=cY A;obtain ⟨rfl,rfl⟩:=(p _ _ _ _ rfl).2 A.symm;obtain ⟨Z,E,G⟩:=H.hp b _ f;unfold RB at G;subst G;have L:LW m σD1 b:=⟨by
      grind [Nat.blt_eq],_,_,E⟩
     exact ⟨_,c_.cU N L E,.inr rfl,True.intro⟩
    omega
   omega
 |op i b v n k a o=>
  simp only[AN];obtain ⟨blk,f,p⟩:=y;split
  ·rename_i h;exact ⟨_,c_.low N (by grind [TC.er,D.low]),.inr rfl,blk,oM (u h) f,p⟩
  omega
 |DQ g M=>
  simp only[AN];split
  ·rename_i h;exact ⟨_,c_.low N (yx h),.inr rfl,by show M.all (CV.low _)=true;simp_all⟩
  omega
 |ap b off len sz k=>
  simp only[AN];split
  ·rename_i h;exact ⟨_,c_.low N (by grind [TC.er,D.low]),.inr rfl,by show b<_;simp_all⟩
  omega
 |os i b v n lo len=>
  simp only[AN];obtain ⟨blk,f,p⟩:=y;split
  ·rename_i h;exact ⟨_,c_.low N (by grind [TC.er,D.low]),.inr rfl,blk,oM (u h) f,p⟩
  omega
theorem SA(H:RH U1 σD1)(i:m<=U1.length)(N:Rn m σD1 (σD1.take m) id (LW m σD1)){a:List TC}{ds:List D}(j:aH RC a ds)(b:∀x∈a,GC U1 x) :
  ∃es,aH (c_ σD1 (σD1.take m) id (LW m σD1)) ds es/\aH RC (a.map (AN m U1)) es/\∀x∈a.map (AN m U1),GC (U1.take m) x:=by
 induction j with
 |nil=>exact ⟨[],.nil,.nil,by simp⟩
 |cons h r ih=>
  obtain ⟨e,l,o,u⟩:=NN H i N h (b _ (pe ..));obtain ⟨es,p,s,v⟩:=ih λx f=>b x (pG _ f);exact ⟨e::es,.cons l p,.cons o s,λx f=>by grind⟩
theorem Yn(H:RH U1 σD1)(e:m<=U1.length)(N:Rn m σD1 (σD1.take m) id (LW m σD1)){al a:TA}{x:RV}{d:D}(f:RR x d)(h:GW al U1 x) :
  ∃b,c_ σD1 (σD1.take m) id (LW m σD1) d b/\RR (AH m U1 x) b/\GW a (U1.take m) (AH m U1 x):=by
 have any:∃b,c_ σD1 (σD1.take m) id (LW m σD1) d b/\RR (.v (.c .any)) b/\GW a (U1.take m) (.v (.c .any)):=⟨.any,c_.any _,Or.inl rfl,True.intro⟩;cases x with
 |g c w p x=>exact any
 |v x=>
  cases x with
  |c x=>exact NN H e N f h
  |aT i=>exact any
  |agg i=>obtain ⟨ds,rfl,j⟩:=f;obtain ⟨l,o,s,u⟩:=SA H e N j h;exact ⟨_,c_.agg o,⟨l,rfl,s⟩,u⟩
theorem ZU(N:Rn m σD1 (σD1.take m) id (LW m σD1))(u:m<=σD1.length){i d2:D}(h:kh m i d2):c_ σD1 (σD1.take m) id (LW m σD1) i d2:=λM l w v R o=>by
 have p:(σD1.take m).length=m:=by simp_all
 have s:=h σD1 (σD1.take m) M l w v (λb j a x=>⟨a,by grind,rfl⟩) o;have e:mN (σD1.take m).length id M=cG M m:=by rw[p];rfl
 rw[e];exact s.sub (λb a j=>⟨a,j,rfl⟩) (λ_ _ h=>h) (λc h=>⟨.inl h,rfl⟩) (λc f T y h=>⟨f,h,rfl⟩)
theorem frz_ok{pre al:TA}{U:TH}{alD j:AL}{σD:aq}(R0:Ref al U alD σD)(K:Ref (pre++al) U1 j σD1)(he:Ext U U1)(O:(U1.take U.length).all (okB U.length)=true) :
  ∃E G,r_ U.length j σD1 E G/\Ref (pre.map (λp=>(p.1,AH U.length U1 p.2))++al) (U1.take U.length) E G/\Ext U (U1.take U.length):=by
 have hm:U.length<=U1.length:=by
  rcases uS U1.length U.length with s | ak
  ·obtain ⟨T,e,_⟩:=he U1.length _ (dB s)
   simp_all
  omega
 have ad:U.length<=σD1.length:=by rw[K.hh.len];exact hm
 have W:Ext U (U1.take U.length):=λb blk u=>by
  obtain ⟨T,l,L⟩:=he b blk u
  grind
 have N:=YH K.hh hm O;have z:∀t,∃A,∀x p,dV t (pre.map (λp=>(p.1,AH U.length U1 p.2))++al)=some (x,p)->GW (pre.map (λp=>(p.1,AH U.length U1 p.2))++al) (U1.take U.length) x/\∃y,lk t j=some y/\c_ σD1 (σD1.take U.length) id (LW U.length σD1) y A/\RR x A:=by
  intro t;cases ht:dV t (pre.map (λp=>(p.1,AH U.length U1 p.2))++al) with
  |none=>simp_all
  |some q=>
   obtain ⟨x,p⟩:=q;have:∃A,GW (pre.map (λp=>(p.1,AH U.length U1 p.2))++al) (U1.take U.length) x/\∃y,lk t j=some y/\c_ σD1 (σD1.take U.length) id (LW U.length σD1) y A/\RR x A:=by
    rcases WL ht with ⟨x0,l,rfl⟩ | ⟨l,L⟩
    ·obtain ⟨y,X,Z,h5⟩:=K.rg t x0 p l;obtain ⟨A,h6,h7,h8⟩:=Yn K.hh hm N.toRn Z h5;exact ⟨A,h8,y,X,h6,h7⟩
    ·obtain ⟨y,X,Z,_⟩:=K.rg t x p l;obtain ⟨_,_,_,h5⟩:=R0.rg t x p L;obtain ⟨A,h6,h7⟩:=Zp Z h5;exact ⟨A,h5.mono W _,y,X,ZU N.toRn ad h6,h7⟩
   simp_all
 refine ⟨(pre.map (λp=>(p.1,AH U.length U1 p.2))++al).map λp=>(p.1,Classical.choose (z p.1)),σD1.take U.length,r_.rn N (λb u=>u.1) (λt d h=>?_),⟨⟨?_,λb blk u=>?_,λb w cs u p hp=>?_⟩,λt x p h=>?_⟩,W⟩
 ·obtain ⟨⟨x,p,X⟩,rfl⟩:=Cb (f:=λt=>Classical.choose (z t)) h
  grind
 ·simp_all
 ·have s:b<U.length:=by grind
  rw[yBq s] at u;obtain ⟨ob,l,L⟩:=K.hh.hp b blk u
  grind
 ·have s:b<U.length:=by grind
  have af:=u;rw[yBq s] at u;obtain ⟨l,L⟩:=K.hh.hg b w cs u p hp;refine ⟨?_,L⟩;have hk:okB U.length (.cells w cs)=true:=gH.1 O _ (yl af);have hk:=gH.1 hk p hp;have bt:∀{b:Nat},Nat.blt b U.length=true->b<U.length:=λh=>yh.mp h;cases M:p.2 with
  |own i b v n=>rw[M] at l hk;obtain ⟨blk,g1,g2⟩:=l;exact ⟨blk,oM (bt hk) g1,g2⟩
  |op i b v n k a o=>rw[M] at l hk;obtain ⟨blk,g1,g2⟩:=l;exact ⟨blk,oM (bt hk) g1,g2⟩
  |os i b v n lo len=>rw[M] at l hk;obtain ⟨blk,g1,g2⟩:=l;exact ⟨blk,oM (bt hk) g1,g2⟩
  |ap b off len sz k=>rw[M] at hk;show b<_;rw[uC];have:=bt hk;omega
  |DQ g xs=>rw[M] at hk;show xs.all (CV.low _)=true;rw[uC,show min U.length U1.length=U.length by omega];exact hk
  |d x=>rw[M] at hk;show x.low _=true;rw[uC,show min U.length U1.length=U.length by omega];exact hk
  |_=>exact True.intro
 ·obtain ⟨l,y,L,X,Z⟩:=yB6 (z t) x p h;exact ⟨_,GJ (f:=λt=>Classical.choose (z t)) ⟨x,p,h⟩,Z,l⟩
theorem yA{h:JH}{md:List Nat}{pre al:TA}{U:TH}{alD a:AL}{σD:aq}{x:qc h.pl}(v:Ref al U alD σD)(l:Ref (pre++al) U1 a σD1)(o:Ext U U1)(j:Eg h md al U (pre++al) U1=some x) :
  ∃i U2 b f,r_ U.length a σD1 b f/\Ref (i++al) U2 b f/\Ext U U2/\KT h md al U (i++al) U2=some x:=by
 unfold Eg at j;split at j
 ·rename_i p;obtain ⟨b,f,z,A,E⟩:=frz_ok v l o p;rw[show (pre++al).length-al.length=pre.length by simp_all,Sc] at j
  grind
 ·refine ⟨pre,U1,a,σD1,r_.refl ?_,l,o,j⟩;rw[l.hh.len];rcases uS U1.length U.length with s | y
  ·obtain ⟨u,e,_⟩:=o U1.length _ (dB s)
   simp_all
  omega
end
end Go.Abs
end
section
namespace Go.Abs
noncomputable section
variable[Gl][Y:Ty]
section
def VA(M:Nat->Option Nat)(r t:Nat):Nat->Option Nat:=λb=>if b=t then M r else if b=r then none else M b
def Rc(r t:Nat)(U1 U2:aq):Prop:=∀b e,b≠t->U1[b]? = some e->∃a,U2[b]? = some a/\e.sz<=a.sz/\(b=r->e.sz<a.sz)/\(b≠r->a.sz=e.sz)
def iw(r t:Nat)(U1 U2:aq)(b d2:D):Prop:=∀(M:Nat->Option Nat)(a:Nat->Prop)(w:World)(v:Value),V U1 M a w b v->V U2 (VA M r t) a w d2 v
variable{r t:Nat}{U1 U2:aq}
theorem iw.any(d:D):iw r t U1 U2 d .any:=λ_ _ _ v _=>.any v
theorem iw.c(x:C):iw r t U1 U2 (.c x) (.c x):=λ_ _ _ v h=>by
 cases h with
 |c h=>exact .c h
theorem iw.ptr(S:Rc r t U1 U2){b off sz:Nat}(o:b≠t):iw r t U1 U2 (.ptr b off sz) (.ptr b off sz):=λM z w v h=>by
 cases h with
 |ptr a s h i A=>
  obtain ⟨j,u,x,E,G⟩:=S b s o h;refine .ptr a j u (mA i x) λK=>?_;by_cases e:b=r
  ·omega
  grind [VA]
theorem iw.sl(S:Rc r t U1 U2){b off len es sz:Nat}(z:b≠t):iw r t U1 U2 (.sl b off len es sz) (.sl b off len es sz):=λM O w v h=>by
 cases h with
 |sl a n i j A h s E=>
  obtain ⟨u,G,K,W,X⟩:=S b A z h;refine .sl a n i j u G (mA s K) λZ=>?_;by_cases e:b=r
  ·omega
  ·rcases E (by omega) with q | ⟨c,o,x,T,q1,L⟩
   ·simp_all
   ·exact .inr ⟨c,o,x,T,by grind [VA],L⟩
theorem iw.low(S:Rc r t U1 U2){d:D}(j:d.low t=true):iw r t U1 U2 d d:=by
 intro M O w v h;induction h with
 |c h=>exact .c h
 |any v=>exact .any v
 |ptr a x h o s=>simp only[D.low,bb] at j;exact iw.ptr S (by omega) M O w _ (.ptr a x h o s)
 |sl a n A E x h o s=>simp only[D.low,bb] at j;exact iw.sl S (by omega) M O w _ (.sl a n A E x h o s)
 | @mp b c x h s=>
  simp only[D.low,bb] at j;obtain ⟨G,u,W,Z,h4⟩:=S b x (by omega) h;refine .mp c G u λhe=>?_;by_cases e:b=r
  ·omega
  grind [VA]
 |fn z X u W s hw K L=>simp only[D.low,bJ] at j;exact .fn z X u W (λi d v a b=>K i d v a b (D.aV j.1 i d a)) (λi d v a b=>L i d v a b (D.aV j.2 i d a))
 |agg z u s ih=>simp only[D.low] at j;exact .agg z u (λi d v a b=>ih i d v a b (D.aV j i d a))
 |aT z u s ih=>simp only[D.low] at j;exact .aT z u (λi d v a b=>ih i d v a b (D.aV j i d a))
theorem iw.agg{ds es:List D}(h:aH (iw r t U1 U2) ds es):iw r t U1 U2 (.agg ds) (.agg es):=λM o w v j=>by
 cases j with
 |agg s u j=>refine .agg s (by rw[u,h.len]) λi d v a b=>?_;obtain ⟨x,z,A⟩:=h.get' i d a;exact A M o w v (j i x v z b)
theorem iw.aT{ds es:List D}(h:aH (iw r t U1 U2) ds es):iw r t U1 U2 (.aT ds) (.aT es):=λM o w v j=>by
 cases j with
 |aT s u j=>refine .aT s (by rw[u,h.len]) λi d v a b=>?_;obtain ⟨x,z,A⟩:=h.get' i d a;exact A M o w v (j i x v z b)
theorem iw.own{es n:Nat}{cs:List D}(x:U1[r]? = some (.cells cs))(z:U2[t]? = some (.cells cs))(K:n * es=cs.length):iw r t U1 U2 (OS es r n) (OS es t n):=λM L w v h=>by
 cases h with
 |sl a n i j O h s A=>
  rw[x] at h;simp only[aw] at h;subst h;refine .sl a n i j _ z s λE=>?_;rcases A E with q | ⟨c,o,u,T,W,G⟩
  ·simp_all
  ·exact .inr ⟨c,o,u,T,by grind [VA],G⟩
def WO(r t:Nat)(U1 U2:aq):Ob->Ob->Prop
 |.cells ds,ob=>∃a,ob=.cells a/\aH (iw r t U1 U2) ds a
 |.map a k,ob=>ob=.map a k/\(a.all λe=>e.2.1.low t)=true
 |.gone k,ob=>ob=.gone k
theorem WO.sz{a b:Ob}(h:WO r t U1 U2 a b):b.sz=a.sz:=by
 cases a with
 |cells ds=>obtain ⟨i,rfl,h⟩:=h;simp only[Ob.sz,h.len]
 |map i k=>obtain ⟨rfl,_⟩:=h;rfl
 |gone k=>cases h;rfl
theorem stw_mv{m:Nat}{al1 al2:AL}{cs:List D}(av:r≠t)(hm:m<=t)(h1:U1[r]? = some (.cells cs))(h2:U2[t]? = some (.cells cs))(hc:∀d∈cs,∃c,d=D.c c)(S:Rc r t U1 U2)
  (ad:∀b ob,b≠t->b≠r->U1[b]? = some ob->∃j,U2[b]? = some j/\WO r t U1 U2 ob j) (hr:∀s d2,lk s al2=some d2->∃L,lk s al1=some L/\iw r t U1 U2 L d2):r_ m al1 U1 al2 U2:=by
 refine ⟨by grind,λn M O w ak R A=>⟨VA M r t,O,⟨λb c f=>?_,λb b' c f a=>?_,R.fz,R.gl⟩,⟨A.1,λs d hs=>?_⟩,λU0 M0 ax w0 R0 E hl=>?_⟩⟩
 ·unfold VA at f;split at f
  ·rename_i e;subst e;obtain ⟨K,ob,o,z,N,p⟩:=R.blk r c f;rw[h1] at z;simp only[aw] at z;subst z;obtain ⟨l,T,W,u,X⟩:=p;refine ⟨K,_,o,h2,N,l,T,W,u,λi d v x y=>?_⟩;obtain ⟨Z,z2⟩:=X i d v x y;obtain ⟨k,rfl⟩:=hc d (yl x);exact ⟨iw.c k M O w v Z,z2⟩
  ·split at f
   ·grind
   ·rename_i e1 e2;obtain ⟨K,ob,o,z,N,p⟩:=R.blk b c f;obtain ⟨j,q5,G⟩:=ad b ob e1 e2 z;refine ⟨K,j,o,q5,N,?_⟩;cases ob with
    |cells ds=>obtain ⟨es,rfl,G⟩:=G;obtain ⟨l,T,W,u,X⟩:=p;refine ⟨l,T,W,by grind [aH.len],λi d v x y=>?_⟩;obtain ⟨L,Z,z2⟩:=G.get' i d x;obtain ⟨z3,z4⟩:=X i L v Z y;exact ⟨z2 M O w v z3,z4⟩
    |map es k=>obtain ⟨rfl,G⟩:=G;obtain ⟨l,W,u,X⟩:=p;refine ⟨l,W,u,λi k d n e x y=>?_⟩;obtain ⟨Z,z2,z3⟩:=X i k d n e x y;rw[gH] at G;exact ⟨Z,z2,iw.low S (G (k,d,n) (yl x)) M O w _ z3⟩
    |gone n=>exact p.elim
 ·unfold VA at f a;split at f
  ·split at a
   ·omega
   ·split at a
    ·simp_all
    ·have:=R.inj r b' c f a;omega
  ·split at f
   ·grind
   ·split at a
    ·have:=R.inj b r c f a;omega
    ·split at a
     ·simp_all
     ·exact R.inj b b' c f a
 ·obtain ⟨L,K,z⟩:=hr s d hs;obtain ⟨v,N,p⟩:=A.2 s L K;exact ⟨v,N,z M O w v p⟩
 ·refine ⟨E.size,E.frame,λb c h=>?_,E.fz,E.rS,E.sa,λb ob f=>?_,E.out⟩
  ·unfold VA at h;split at h
   ·exact E.oA r c h
   ·split at h
    ·simp at h
    ·exact E.oA b c h
  ·obtain ⟨af,K,z,N⟩:=E.cX b ob f;have a0:=(jy.1 f).1;have e1:b≠t:=by omega
   obtain ⟨j,p,q5,G,q7⟩:=S b af e1 K;refine ⟨j,p,by omega,λhe=>?_⟩;by_cases e:b=r
   ·omega
   grind [VA]
end
theorem TJ{m:Nat}{al:AL}{U:aq}{ob:Ob}(hm:m<=U.length):r_ m al U al (U++[ob]):=by
 have at':lu U (U++[ob]):=λb a h=>⟨a,by grind,rfl⟩;refine ⟨by grind,λn M K w X R A=>⟨M,K,⟨λb c L=>?_,R.inj,R.fz,R.gl⟩,⟨A.1,λs d hs=>?_⟩,λU0 M0 ad w0 R0 E u=>?_⟩⟩
 ·obtain ⟨Z,a,o,q2,z,l⟩:=R.blk b c L;obtain ⟨N,q5,q6⟩:=at' b a q2;refine ⟨Z,a,o,by grind,z,?_⟩;have j:∀{d v},V U M K w d v->V (U++[ob]) M K w d v:=λh=>h.sub at' (λ_ _ h=>h) (λc h=>⟨h,rfl⟩) (λc f T fr h=>⟨f,h,rfl⟩);cases a with
  |cells cs=>obtain ⟨f,T,O,u,G⟩:=l;exact ⟨f,T,O,u,λi d v x y=>⟨j (G i d v x y).1,(G i d v x y).2⟩⟩
  |map es W=>obtain ⟨f,O,u,G⟩:=l;exact ⟨f,O,u,λi k d n e x y=>let ⟨p,q,r⟩:=G i k d n e x y;⟨p,q,j r⟩⟩
  |gone n=>exact l.elim
 ·obtain ⟨v,z,l⟩:=A.2 s d hs;exact ⟨v,z,l.sub at' (λ_ _ h=>h) (λc h=>⟨h,rfl⟩) (λc f T fr h=>⟨f,h,rfl⟩)⟩
 ·refine ⟨E.size,E.frame,E.oA,E.fz,E.rS,E.sa,λb a L=>?_,E.out⟩;obtain ⟨N,Z,q2,z⟩:=E.cX b a L
  grind
theorem r_.le{m m':Nat}{al1 al2:AL}{U1 U2:aq}(h:r_ m al1 U1 al2 U2)(o:m'<=m):r_ m' al1 U1 al2 U2:=⟨mA o h.1,λn s j u i R A=>by
 obtain ⟨x,z,E,G,K⟩:=h.2 n s j u i R A
 grind⟩
section
variable{P:Program}{n:Nat}{al0 al al2:AL}{U0 U U2:aq}{Q:qd->AL->aq->Prop}
def Ae(P:Program)(ac:br)(k:Nat)(n:Nat)(U0:aq)(al:AL)(U:aq)(Q:qd->AL->aq->Prop):Prop:=
 ∀ (c : Code), cZ P c = some ac -> ∀ (j : Nat -> Option Nat) (b : Nat -> Prop) (l : World) (M : Nat -> Option Nat) (o : Nat -> Prop) (w : World) (a : Act) (K : Exit -> Act -> World -> Prop), Rel U0 j b l -> Rel U M o w -> fU n U M o w al a.tmps ->
  bQ U0 j b l U M o w->U0.length<=U.length ->
  (∀x f h p i s e,Q x f h->p.defers=a.defers->Rel h s e i->fU n h s e i f p.tmps->bQ U0 j b l h s e i->U0.length<=h.length->K (Ic x) p i)->Code.rounds P c K k a w
theorem Ae.start{ac:br}{k:Nat}(hs:r_ U0.length al0 U0 al U)(h:Ae P ac k n U0 al U Q):kS P ac k n al0 U0 Q:=by intro c i M j w a K R A o;obtain ⟨s,u,x,z,E,G⟩:=hs.use R R A (bQ.refl R) (cT _);exact h c i M j w s u w a K R x z E G o
theorem Ae.succ{b:br}{k:Nat}(h:Sem P b n al U λx al1 U1=>match x with | .normal=>∃al2 U2,r_ U0.length al1 U1 al2 U2/\Ae P b k n U0 al2 U2 Q | x=>Q x al1 U1):Ae P b (k+1) n U0 al U Q:=by
 intro c L M0 j w0 M Fz w o K O R A E0 W X;rw[rounds_succ];refine h c L M Fz w o _ R A λx al1 U1 Z w' M' s hQ hd R' A' E' hl=>?_;have E1:=E0.trans E' W;cases x with
 |normal=>obtain ⟨al2,U2,hw,hs⟩:=hQ;obtain ⟨M2,F2,R2,A2,E2,l2⟩:=hw.use O R' A' E1 (cT _);exact hs c L M0 j w0 M2 F2 w' Z K O R2 A2 E2 l2 λx u U3 a3 w3 M3 z E ad R3 A3 E3 G=>X x u U3 a3 w3 M3 z E (by simp_all) R3 A3 E3 G
 |exit i=>grind [oW]
 |ret=>exact X .ret al1 U1 Z w' M' s hQ hd R' A' E1 (mA W hl)
end
section
variable{U U1:TH}{σD:aq}{alD:AL}{t r:Nat}
theorem zr{x:TC}{d:D}{U1 U2:aq}(S:Rc r t U1 U2)(l:RC x d)(f:Zn t x=true):iw r t U1 U2 d x.er:=by
 rcases l with rfl | rfl
 ·exact iw.any _
 have j:∀{b:Nat},(!Nat.beq b t)=true->b≠t:=λh e=>by simp_all
 cases x with
 |any=>exact iw.any _
 |d x=>exact iw.low S f
 |own i b v n=>exact iw.sl S (j f)
 |op i b v n k a off=>exact iw.ptr S (j f)
 |ap b off len sz k=>exact iw.ptr S (j f)
 |os i b v n o len=>exact iw.sl S (j f)
 |DQ g p=>exact iw.low S (yx f)
 |_=>exact iw.c _
theorem Ou{x:TC}{d:D}{U1 U2:aq}(S:Rc r t U1 U2)(a:RC x d):iw r t U1 U2 d (Mm t x).er:=by
 unfold Mm;split
 ·grind [zr]
 ·exact iw.any _
theorem EL{U':TH}(a:Ext U U'){x:TC}(h:GC U x):GC U' (Mm t x):=by
 unfold Mm;split
 ·exact h.mono a
 ·exact True.intro
theorem Tg{a:List TC}{ds:List D}{U1 U2:aq}(S:Rc r t U1 U2)(b:aH RC a ds):∃es,aH (iw r t U1 U2) ds es/\aH RC (a.map (Mm t)) es:=by
 induction b with
 |nil=>exact ⟨[],.nil,.nil⟩
 |cons h _ ih=>obtain ⟨es,e,f⟩:=ih;exact ⟨_::es,.cons (Ou S h) e,.cons (.inr rfl) f⟩
theorem WM{al a:TA}{x:RV}{d:D}{U1 U2:aq}{U':TH}(e:Ext U U')(S:Rc r t U1 U2)(f:RR x d)(h:GW al U x):∃b,iw r t U1 U2 d b/\RR (Eu t x) b/\GW a U' (Eu t x):=by
 have any:∃b,iw r t U1 U2 d b/\RR (.v (.c .any)) b/\GW a U' (.v (.c .any)):=⟨.any,iw.any _,Or.inl rfl,True.intro⟩;cases x with
 |g c w p x=>exact any
 |v x=>
  cases x with
  |c x=>exact ⟨_,Ou S f,Or.inr rfl,EL (x:=x) e h⟩
  |aT j=>exact any
  |agg j=>obtain ⟨ds,rfl,l⟩:=f;obtain ⟨o,s,u⟩:=Tg S l;refine ⟨_,iw.agg s,⟨o,rfl,u⟩,λx i=>?_⟩;rw[jJ] at i;obtain ⟨y,z,rfl⟩:=i;exact EL e (h y z)
theorem Tx{x:TV}{d:D}{U1 U2:aq}(S:Rc r t U1 U2)(l:RT x d)(b:nrV t x=true):∃z,iw r t U1 U2 d z/\RT x z:=by
 have A:∀{e:List TC}{ds:List D},aH RC e ds->e.all (Zn t)=true->∃a,aH (iw r t U1 U2) ds a/\aH RC e a:=by
  intro e ds h;induction h with
  |nil=>intro _;exact ⟨[],.nil,.nil⟩
  |cons h _ ih=>intro b;simp only[List.all_cons,bJ] at b;obtain ⟨a,i,j⟩:=ih b.2;exact ⟨_::a,.cons (zr S h b.1) i,.cons (.inr rfl) j⟩
 cases x with
 |c x=>exact ⟨_,zr S l b,Or.inr rfl⟩
 |agg e=>obtain ⟨ds,rfl,o⟩:=l;obtain ⟨a,i,j⟩:=A o b;exact ⟨_,iw.agg i,a,rfl,j⟩
 |aT e=>
  obtain ⟨ds,rfl,o⟩:=l;have:∃a,aH (iw r t U1 U2) ds a/\aH RE e a:=by
   simp only[nrV] at b;induction o with
   |nil=>exact ⟨[],.nil,.nil⟩
   | @cons p d e ds h _ ih=>
    simp only[List.all_cons,bJ] at b;obtain ⟨a,i,j⟩:=ih b.2;obtain ⟨f,L⟩:=p;cases f with
    |true=>obtain ⟨E,rfl,s⟩:=h;obtain ⟨u,G,K⟩:=A s (by simp_all);exact ⟨_::a,.cons (iw.agg G) i,.cons ⟨u,rfl,K⟩ j⟩
    |false=>
     obtain ⟨y,rfl,s⟩:=h;have v:Zn t y=true:=by simp_all
     exact ⟨_::a,.cons (zr S s v) i,.cons ⟨y,rfl,.inr rfl⟩ j⟩
  obtain ⟨a,i,j⟩:=this;exact ⟨_,iw.aT i,a,rfl,j⟩
theorem nrR_ok{x:RV}{d:D}{U1 U2:aq}(S:Rc r t U1 U2)(a:RR x d)(b:nrR t x=true):∃e,iw r t U1 U2 d e/\RR x e:=by
 cases x with
 |g c w p x=>
  by_cases h:c=w
  ·simp only[RR,if_pos h] at a ⊢;exact Tx S a b
  ·simp only[RR,if_neg h] at a ⊢;subst a;exact ⟨.aT [],iw.low S rfl,rfl⟩
 |v x=>exact Tx S a b
theorem TK(U:TH)(t:Nat):Ext U (U.map (vF t)):=λb blk h=>by
 refine ⟨vF t blk,by simp_all,?_⟩;cases blk with
 |row i l a f=>exact BE.refl _
 |mp j st l v=>exact BE.refl _
 |cells w o=>
  refine ⟨w+1,_,rfl,Nat.le_succ _,by simp,λj v x p s e u=>?_⟩
  grind [D_]
theorem Xp(i:Nat)(l:List (TT i)):(OB (enc i) l).sz<(OB (enc i) (l++[dfl i])).sz:=by have h:0<aA i:=Y.ps i;simp only[Ob.sz,OB,A_,yBJ,Gh,YA,List.flatMap_nil,Zr,uG];omega
theorem WP{al:TA}{s:Nat}{x:RV}{p:Nat}:∀{pre:TA},dV s (pre.map (λp=>(p.1,Eu t p.2))++al)=some (x,p) ->
  (∃a,dV s (pre++al)=some (a,p)/\x=Eu t a)∨(dV s (pre++al)=some (x,p)/\dV s al=some (x,p)):=by
 intro pre;induction pre with
 |nil=>simp_all
 |cons y pre ih=>
  intro h;obtain ⟨b,y⟩:=y;simp only[oK,List.cons_append,dV] at h ⊢
  grind
theorem lkP_in{s:Nat}{x:RV}{p:Nat}:∀{al:TA},dV s al=some (x,p)->(s,x)∈al:=by
 intro al;induction al with
 |nil=>grind [dV]
 |cons y al ih=>grind [dV,Nat.eq_of_beq_eq_true]
theorem VO{blk:TB}{U1 U2:aq}(S:Rc r t U1 U2):WO r t U1 U2 blk.er (vF t blk).er:=by
 cases blk with
 |cells w s=>
  refine ⟨_,rfl,aH.sF (by simp) λj a b f e=>?_⟩;rw[jX,cu] at f;obtain ⟨p,o,rfl⟩:=f;rw[jX,jX,o] at e;simp only[Option.map_some,aw] at e;subst e;unfold D_;split
  ·rename_i h;exact zr S (.inr rfl) h
  ·exact iw.any _
 |row i l u x=>
  refine ⟨_,rfl,aH.sF rfl λj a b f e=>?_⟩
  grind [iw.c]
 |mp j st l v=>exact ⟨rfl,Hj (λa=>Gp _ _ _ _) _ _⟩
theorem Zx(H:RH U σD){b:Nat}{ob:Ob}(h:σD[b]? = some ob):∃blk,U[b]? = some blk/\ob=blk.er:=by
 have a:b<U.length:=by grind [RH.len]
 obtain ⟨f,e,i⟩:=H.hp b _ (dB a);rw[h] at e;simp only[aw] at e;exact ⟨_,dB a,e.trans i⟩
theorem Vj{n b j m:Nat}{pre al0 ak:TA}{U0 U':TH}{av:AL}{ax:aq}(R0:Ref al0 U0 av ax)(a0:Ext U0 U)(z:Ref (pre++al0) U alD σD)(hn:n=pre.length)(hm:m<=t)(ht:t<U.length)(h:mvA n t b j (pre++al0) U=some (ak,U')) :
  ∃E W X,ak=E++al0/\E.length=pre.length/\r_ m alD σD W X/\Ref (E++al0) U' W X/\Ext U U'/\U'.length=U.length:=by
 unfold mvA at h;split at h
 rotate_left
 ·simp at h
 rename_i w A hb;split at h
 rotate_left
 ·simp at h
 rename_i v0 i r v q hj;split at h
 ·simp only[aw,ba] at h;obtain ⟨rfl,rfl⟩:=h;exact ⟨pre,alD,σD,rfl,rfl,r_.refl (by rw[z.hh.len];omega),z,Ext.refl _,rfl⟩
 rename_i ad;have ad:r≠t:=λe=>by simp_all
 split at h
 rotate_left
 ·simp at h
 rename_i i1 l lv cv o l2 lt ct hr a1;split at h
 rotate_left
 ·simp at h
 rename_i hc;simp only[bJ] at hc;obtain ⟨c1,c2,c3⟩:=hc;have c1:=cY c1;have c2:=cY c2;subst c1 c2;have G:(pre++al0).drop n=al0:=by simp_all
 have af:(pre++al0).take n=pre:=by simp_all
 rw[G] at c3;rw[G,af] at h;simp only[aw,ba] at h;obtain ⟨rfl,h⟩:=h;have ga:∀(b:Nat) blk,U[b]? = some blk->(U.map (vF t))[b]? = some (vF t blk):=λb blk e=>by simp_all
 have x0:=TK U t;have a2:=ga t _ a1;have x1:Ext U ((U.map (vF t)).set t (.row o l (lt+1) (ct+1))):=Ext.trans z.hh x0 (Ext.set a2 ⟨l,lt+1,ct+1,rfl,by omega,by omega,λe=>by omega,λe=>by omega⟩);have a3:((U.map (vF t)).set t (.row o l (lt+1) (ct+1)))[r]? = some (.row o l v cv):=by rw[Vz ad];exact ga r _ hr
 have x2:Ext U (((U.map (vF t)).set t (.row o l (lt+1) (ct+1))).set r (.row o (l++[dfl o]) (v+1) (cv+1))):=Ext.trans z.hh x1 (Ext.set a3 ⟨_,v+1,cv+1,rfl,by omega,by omega,λe=>by omega,λe=>by omega⟩);have a4:b≠t:=λe=>by simp_all
 have a5:b≠r:=λe=>by simp_all
 have a6:(((U.map (vF t)).set t (.row o l (lt+1) (ct+1))).set r (.row o (l++[dfl o]) (v+1) (cv+1)))[b]? = some (.cells (w+1) (A.map (D_ t w))):=by rw[Vz a5,Vz a4];exact ga b _ hb
 have a9:∀p∈A,p.1<=w:=λp hp=>(z.hh.hg b w A hb p hp).2;have x3:Ext U U':=by
  rw[<-h];refine Ext.trans z.hh x2 (Ext.set a6 ⟨w+2,_,rfl,by omega,by simp,λk va xa vb xb e e1=>?_⟩)
  grind
 have len:U'.length=U.length:=by grind
 have gt:U'[t]? = some (.row o l (lt+1) (ct+1)):=by grind
 have gr:U'[r]? = some (.row o (l++[dfl o]) (v+1) (cv+1)):=by grind
 have gb:U'[b]? = some (.cells (w+2) ((A.map (D_ t w)).set j (w+2,.own o t (lt+1) l.length))):=by grind
 have go:∀(u:Nat),u≠t->u≠r->u≠b->U'[u]? = (U[u]?).map (vF t):=λu e1 e2 O=>by grind
 clear h;have gj:=(z.hh.hg b w A hb _ (yl hj)).1;obtain ⟨ei,el⟩:=mZ z.hh gj hr (by simp);subst ei;have S:Rc r t σD (U'.map TB.er):=λu ob e1 e2=>by
  obtain ⟨blk,O,rfl⟩:=Zx z.hh e2;rw[jX];by_cases e4:u=r
  ·subst e4;rw[hr] at O;simp only[aw] at O;subst O;rw[gr];have:=Xp o l;exact ⟨_,rfl,Nat.le_of_lt this,λ_=>this,λe=>absurd rfl e⟩
  ·by_cases e5:u=b
   ·subst e5;rw[hb] at O;simp only[aw] at O;subst O;rw[gb];have e6:(TB.er (.cells (w+2) ((A.map (D_ t w)).set j (w+2,.own o t (lt+1) l.length)))).sz=(TB.er (.cells w A)).sz:=by simp[TB.er,Ob.sz]
    simp_all
   ·rw[go u e1 e4 e5,O];have e6:(vF t blk).er.sz=blk.er.sz:=by
     cases blk with
     |cells w A=>simp[vF,TB.er,Ob.sz]
     |_=>rfl
    simp_all
 have a7:σD[r]? = some (.cells ((l.flatMap (enc o)).map .c)):=z.hh.row hr;have a8:(U'.map TB.er)[t]? = some (.cells ((l.flatMap (enc o)).map .c)):=by rw[jX,gt];rfl
 have own:iw r t σD (U'.map TB.er) (OS (aA o) r q) (OS (aA o) t l.length):=by grind [iw.own,jr,uG]
 have K:∀s,∃T,∀x p,dV s (pre.map (λp=>(p.1,Eu t p.2))++al0)=some (x,p)->GW (pre.map (λp=>(p.1,Eu t p.2))++al0) U' x/\∃L,lk s alD=some L/\iw r t σD (U'.map TB.er) L T/\RR x T:=by
  intro s;cases hs:dV s (pre.map (λp=>(p.1,Eu t p.2))++al0) with
  |none=>simp_all
  |some y=>
   obtain ⟨x,p⟩:=y;have:∃T,GW (pre.map (λp=>(p.1,Eu t p.2))++al0) U' x/\∃L,lk s alD=some L/\iw r t σD (U'.map TB.er) L T/\RR x T:=by
    rcases WP hs with ⟨x0,Z,rfl⟩ | ⟨Z,M⟩
    ·obtain ⟨L,N,h4,h5⟩:=z.rg s x0 p Z;obtain ⟨T,h6,h7,h8⟩:=WM x3 S h4 h5;exact ⟨T,h8,L,N,h6,h7⟩
    ·obtain ⟨L,N,h4,_⟩:=z.rg s x p Z;obtain ⟨_,_,_,h5⟩:=R0.rg s x p M;have hx:nrR t x=true:=gH.1 c3 _ (lkP_in M);obtain ⟨T,h6,h7⟩:=nrR_ok S h4 hx;exact ⟨T,h5.mono (Ext.trans R0.hh a0 x3) _,L,N,h6,h7⟩
   simp_all
 refine ⟨_,(pre.map (λp=>(p.1,Eu t p.2))++al0).map λp=>(p.1,Classical.choose (K p.1)),U'.map TB.er,rfl,by simp,stw_mv ad hm a7 a8 (λd hd=>?_) S (λu ob e1 e2 O=>?_) (λs T h=>?_),⟨⟨by simp,λu blk e=>⟨_,by simp_all,rfl⟩,λu w' bc e p hp=>?_⟩,λs x p h=>?_⟩,x3,len⟩
 ·grind
 ·obtain ⟨blk,e4,rfl⟩:=Zx z.hh O;rw[jX];by_cases e5:u=b
  ·subst e5;rw[hb] at e4;simp only[aw] at e4;subst e4;rw[gb];refine ⟨_,rfl,_,rfl,aH.sF (by simp) λk a c Z M=>?_⟩;rw[jX,cu] at Z;obtain ⟨p,N,rfl⟩:=Z;rw[jX] at M;by_cases ek:j=k
   ·subst ek;rw[hj] at N;simp only[aw] at N;subst N;rw[yBu,if_pos rfl,if_pos (by simp_all)] at M;simp only[Option.map_some,aw] at M;subst M;exact own
   ·rw[xAj ek,jX,N] at M;simp only[Option.map_some,aw] at M;subst M;unfold D_;split
    ·rename_i h;exact zr S (.inr rfl) h
    ·exact iw.any _
  grind [VO]
 ·obtain ⟨⟨x,p,N⟩,rfl⟩:=Cb (f:=λs=>Classical.choose (K s)) h;obtain ⟨_,L,h4,h5,_⟩:=yB6 (K s) x p N
  simp_all
 ·have cut:∀{w:Nat}{A:List (Nat×TC)}{b:Nat},U[b]? = some (.cells w A)->∀p∈A.map (D_ t w),GC U' p.2/\p.1<=w+1:=λ{w A b} hb p hp=>by
   rw[jJ] at hp;obtain ⟨y,hy,rfl⟩:=hp;obtain ⟨g1,g2⟩:=z.hh.hg b w A hb y hy;unfold D_;split
   ·exact ⟨g1.mono x3,by omega⟩
   ·exact ⟨True.intro,cT _⟩
  by_cases e1:u=t
  ·simp_all
  by_cases e2:u=r
  ·simp_all
  by_cases e5:u=b
  ·subst e5;rw[gb] at e;simp only[aw,TB.cells.injEq] at e;obtain ⟨rfl,rfl⟩:=e;rcases Vr hp with hp | rfl
   ·grind
   ·refine ⟨⟨_,gt,λj l' bd be e=>?_⟩,cT _⟩
    grind
  ·rw[go u e1 e2 e5,cu] at e;obtain ⟨blk,e6,e7⟩:=e;cases blk with
   |cells w0 bh=>grind [vF]
   |row i l lv cv=>grind [vF]
   |mp j st l v=>grind [vF]
 ·obtain ⟨Z,L,M,N,h4⟩:=yB6 (K s) x p h;exact ⟨_,GJ (f:=λs=>Classical.choose (K s)) ⟨x,p,h⟩,h4,Z⟩
theorem mvL_ok{n m:Nat}{al0:TA}{U0:TH}{l:AL}{o:aq}(G:Ref al0 U0 l o):∀(p:List (Nat×Nat×Nat)){pre a:TA}{U U':TH}{alD:AL}{σD:aq},Ext U0 U->Ref (pre++al0) U alD σD->n=pre.length->(∀z∈p,m<=z.2.2/\z.2.2<U.length)->m<=U.length->mvL n p (pre++al0) U=some (a,U') ->
  ∃e f i,a=e++al0/\r_ m alD σD f i/\Ref (e++al0) U' f i/\Ext U0 U':=by
 intro p;induction p with
 |nil=>intro pre a U U' alD σD x y _ _ K h;simp only[mvL,aw,ba] at h;obtain ⟨rfl,rfl⟩:=h;exact ⟨pre,alD,σD,rfl,r_.refl (by rw[y.hh.len];exact K),y,x⟩
 |cons z p ih=>
  intro pre a U U' alD σD x y L O K h;obtain ⟨b,j,t⟩:=z;simp only[mvL] at h;split at h
  ·rename_i al1 U1 T;obtain ⟨A,E⟩:=O _ (pe ..);obtain ⟨M,N,σD1,rfl,W,s1,X,Z,len⟩:=Vj G x y L A E T;obtain ⟨s,u,v,e2,s2,R3,x2⟩:=ih (Ext.trans G.hh x Z) X (L.trans W.symm) (λz ad=>by grind) (by omega) h;exact ⟨s,u,v,e2,s1.trans s2,R3,x2⟩
  simp_all
theorem mvE_ok{m:Nat}:∀(o:List (Nat×Nat×Nat)){al a:TA}{U U':TH}{alD:AL}{σD:aq},Ref al U alD σD->m<=U.length->mvE o al U=some (a,U') ->
  a=al/\U'.length=U.length+o.length/\(∀z∈o,U.length<=z.2.2/\z.2.2<U'.length)/\∃f l,r_ m alD σD f l/\Ref al U' f l/\Ext U U':=by
 intro o;induction o with
 |nil=>intro al a U U' alD σD R v h;simp only[mvE,aw,ba] at h;obtain ⟨rfl,rfl⟩:=h;exact ⟨rfl,rfl,by simp,alD,σD,r_.refl (by rw[R.hh.len];exact v),R,Ext.refl _⟩
 |cons z o ih=>
  intro al a U U' alD σD R v h;obtain ⟨b,j,t⟩:=z;simp only[mvE] at h;split at h
  rotate_left
  ·simp at h
  rename_i x Z;have K:=cY x;subst K;split at h
  rotate_left
  ·simp at h
  rename_i i _ _ _ _;split at h
  rotate_left
  ·simp at h
  rename_i al1 U1 L;have M:Ref al (U++[.row i [] 0 0]) alD (σD++[.cells []]):=R.heap (R.hh.push (blk:=.row i [] 0 0) (ob:=.cells []) rfl (λw cs e=>by simp at e)) (Ext.push U _);obtain ⟨p,A,σD1,E,N,s1,G,y,len⟩:=Vj (pre:=[]) (m:=m) R (Ext.push U _) M rfl v (by simp) L;have:p=[]:=VD N;subst this;rw[xAd] at E G;subst E;have len:U1.length=U.length+1:=by simp_all
  have y:Ext U U1:=Ext.trans R.hh (Ext.push U _) y;obtain ⟨O,l3,z3,s,u,T,W,X⟩:=ih G (by omega) h;refine ⟨O,by grind,λz hz=>?_,s,u,(TJ (by rw[R.hh.len];exact v)).trans (s1.trans T),W,Ext.trans R.hh y X⟩
  grind
end
end
end Go.Abs
end
section
namespace Go.Abs
noncomputable section
variable[Gl][Y:Ty]
def jumps(P:Program)(b:Code)(l:Nat)(Q:Exit->Act->World->Prop):Nat->Act->World->Prop
 |0,_,_=>False
 |k+1,a,w=>b.wp P (Exit.jump l (jumps P b l Q k) Q) a w
theorem DZ{P:Program}{Q:Exit->Act->World->Prop}{c p:Code}{l:Nat}(O:findLabel c l=some p){k:Nat}{a:Act}{w:World}(first:c.wp P (Exit.jump l (jumps P p l Q k) Q) a w):(Code.scope c).wp P Q a w:=by
 intro b A E;have L:gotoIn l (.inScope c::A)=some (.code p::.inScope c::A):=by simp[gotoIn,O]
 have G:∀k a w,jumps P p l Q k a w->∃e M N,Q e M N/\Arrives P (lone (b.at a (.code p::.inScope c::A)) E w) b A E e M N:=by
  intro k;induction k with
  |zero=>intro a w h;exact h.elim
  |succ k ih=>
   intro a w h;obtain ⟨e,f,i,u,j⟩:=h b (.inScope c::A) E;cases e with
   |normal=>exact ⟨.normal,f,i,u,Steps.trans j (.one step_inScope)⟩
   |exit id=>exact ⟨.exit id,f,i,u,λK hk=>j K (by simp[exitTo,hk])⟩
   |goto T=>obtain ⟨rfl,z⟩:=u;obtain ⟨v,x,y,s,o⟩:=ih f i z;exact ⟨v,x,y,s,.of_steps (j _ L) o⟩
   |ret=>exact ⟨_,f,i,u,j⟩
   |panic W=>exact ⟨_,f,i,u,j⟩
   |outgrown=>exact ⟨_,f,i,u,j⟩
 obtain ⟨e,f,i,u,j⟩:=first b (.inScope c::A) E
 cases e with
 |normal=>exact ⟨.normal,f,i,u,.head step_scope (Steps.trans j (.one step_inScope))⟩
 |exit id=>exact ⟨.exit id,f,i,u,λK hk=>.head step_scope (j K (by simp[exitTo,hk]))⟩
 |goto T=>obtain ⟨rfl,z⟩:=u;obtain ⟨v,x,y,s,o⟩:=G _ f i z;exact ⟨v,x,y,s,.of_steps (.head step_scope (j _ L)) o⟩
 |ret=>exact ⟨_,f,i,u,.of_steps (.one step_scope) j⟩
 |panic W=>exact ⟨_,f,i,u,.of_steps (.one step_scope) j⟩
 |outgrown=>exact ⟨_,f,i,u,.of_steps (.one step_scope) j⟩
theorem fl_ok{P:Program}{l:Nat}:∀{b:Code}{a:br},cZ P b=some a->(∀r,MQ l a=some r->∃f,findLabel b l=some f/\cZ P f=some r)/\(MQ l a=none->findLabel b l=none):=by
 intro b;induction b with
 |seq v x j p=>
  intro a h;simp only[cZ] at h;split at h
  ·rename_i s N y z;simp only[aw] at h;subst h;obtain ⟨p1,O⟩:=j y;obtain ⟨T,W⟩:=p z;simp only[MQ,findLabel];cases A:MQ l s with
   |some E=>obtain ⟨f,G,X⟩:=p1 E A;rw[G];refine ⟨λr i=>?_,λK=>by grind⟩;simp only[aw] at i;subst i;exact ⟨_,rfl,by grind [cZ]⟩
   |none=>simp_all
  simp_all
 |label L=>
  intro a h;simp only[cZ,aw] at h;subst h;simp only[MQ,findLabel];split
  ·refine ⟨λr i=>?_,λK=>by grind⟩;simp only[aw] at i;subst i;exact ⟨_,rfl,rfl⟩
  simp_all
 |scope b ih=>intro a h;simp only[cZ,cu] at h;obtain ⟨s,_,rfl⟩:=h;rcases YP s with ⟨L,Z,_,e⟩ | e <;> rw[e] <;> exact ⟨λr i=>by grind [MQ],λ_=>rfl⟩
 |region id M u=>
  intro a h;have:MQ l a=none:=by
   simp only[cZ] at h;split at h
   ·cases u with
    |false=>simp only[a_,bn,aw] at h;subst h;rfl
    |true=>simp only[if_true] at h;split at h <;> (simp only[aw] at h;subst h;rfl)
   ·simp only[aw] at h;subst h;rfl
  exact ⟨λr i=>by simp_all,λ_=>rfl⟩
 |cond o v x j p=>
  intro a h;have:MQ l a=none:=by simp only[cZ] at h;split at h <;> (simp only[aw] at h;subst h;rfl)
  exact ⟨λr i=>by simp_all,λ_=>rfl⟩
 |block id b ih=>intro a h;simp only[cZ,cu] at h;obtain ⟨s,_,rfl⟩:=h;exact ⟨λr i=>by grind [MQ],λ_=>rfl⟩
 |loop b ih=>intro a h;simp only[cZ,cu] at h;obtain ⟨s,_,rfl⟩:=h;exact ⟨λr i=>by grind [MQ],λ_=>rfl⟩
 |_=>intro a h;simp only[cZ,aw] at h;subst h;exact ⟨λr i=>by grind [MQ],λ_=>rfl⟩
section
variable{P:Program}{n:Nat}{al:AL}{U:aq}{Q:qd->AL->aq->Prop}
theorem Sem.VF{l:Nat}(x:Q .normal al U):Sem P (.VF l) n al U Q:=by
 intro c i M z w s K R A E;cases c with
 |label W=>exact wp_label (E .normal al U s w M z x rfl R A (bQ.refl R) (cT _))
 |region id G j=>
  simp only[cZ] at i;split at i
  ·cases j with
   |false=>simp at i
   |true=>simp only[if_true] at i;split at i <;> simp at i
  ·simp at i
 |seq c1 L=>simp only[cZ] at i;split at i <;> simp at i
 |cond o c1 L=>simp only[cZ] at i;split at i <;> simp at i
 |scope b=>simp only[cZ,cu] at i;obtain ⟨O,_,u⟩:=i;rcases YP O with ⟨l,r,_,e⟩ | e <;> rw[e] at u <;> simp at u
 |_=>simp[cZ] at i
def QR(P:Program)(r:br)(l:Nat)(k:Nat)(n:Nat)(al:AL)(U:aq)(Q:qd->AL->aq->Prop):Prop:=
 ∀ (c : Code), cZ P c = some r -> ∀ (M : Nat -> Option Nat) (i : Nat -> Prop) (w : World) (a : Act) (K : Exit -> Act -> World -> Prop), Rel U M i w -> fU n U M i w al a.tmps ->
  (∀x e f j h o b,Q x e f->j.defers=a.defers->Rel f o b h->fU n f o b h e j.tmps->bQ U M i w f o b h->U.length<=f.length->K (Ic x) j h)->jumps P c l K k a w
def Jmp(P:Program)(r:br)(l:Nat)(k:Nat)(n:Nat)(m:Nat)(Q:qd->AL->aq->Prop):qd->AL->aq->Prop
 |.exit i,al,U=>(i=2 * l+1/\∃al2 U2,r_ m al U al2 U2/\QR P r l k n al2 U2 Q)∨(i % 2=0/\Q (.exit i) al U)
 |x,al,U=>Q x al U
theorem Jmp.use{r:br}{l k:Nat}{c:Code}(hc:cZ P c=some r){M:Nat->Option Nat}{Fz:Nat->Prop}{w:World}{a:Act}{K:Exit->Act->World->Prop}(R:Rel U M Fz w)
  (A:∀x z U' s o u j,Q x z U'->s.defers=a.defers->Rel U' u j o->fU n U' u j o z s.tmps->bQ U M Fz w U' u j o->U.length<=U'.length->K (Ic x) s o)
  {x:qd} {al1:AL} {U1:aq} {s:Act} {o:World} {u:Nat->Option Nat} {j:Nat->Prop} (O:Jmp P r l k n U.length Q x al1 U1) (hd:s.defers=a.defers) (E:Rel U1 u j o) (G:fU n U1 u j o al1 s.tmps) (L:bQ U M Fz w U1 u j o) (W:U.length<=U1.length) :
  Exit.jump l (jumps P c l K k) K (Ic x) s o:=by
 cases x with
 |normal=>exact A .normal al1 U1 s o u j O hd E G L W
 |ret=>exact A .ret al1 U1 s o u j O hd E G L W
 |exit i=>
  rcases O with ⟨rfl,al2,U2,hw,hs⟩ | ⟨he,hq⟩
  ·rw[II];obtain ⟨M2,F2,R2,A2,E2,l2⟩:=hw.use R E G L (cT _);exact ⟨rfl,hs c hc M2 F2 o s K R2 A2 λx X U3 a3 w3 M3 Z ad ak R3 A3 E3 af=>A x X U3 a3 w3 M3 Z ad (by simp_all) R3 A3 (E2.trans E3 l2) (mA l2 af)⟩
  ·have:=A (.exit i) al1 U1 s o u j hq hd E G L W;rw[zu he] at this ⊢;exact this
theorem QR.succ{r:br}{l k:Nat}(h:Sem P r n al U (Jmp P r l k n U.length Q)):QR P r l (k+1) n al U Q:=by intro c i M j w a K R A o;exact h c i M j w a _ R A λx al1 U1 O W X s u hd z E G L=>Jmp.use i R o u hd z E G L
theorem Sem.QY{l:Nat}{a r:br}(k:Nat)(h:Sem P a n al U (Jmp P r l k n U.length Q)):Sem P (.QY l a r) n al U Q:=by
 intro c i M G w u K R A L;cases c with
 |scope b=>
  simp only[cZ,cu] at i;obtain ⟨O,z,j⟩:=i;rcases YP O with ⟨l',r',W,e⟩ | e
  ·rw[e] at j;simp only[br.QY.injEq] at j;obtain ⟨rfl,rfl,rfl⟩:=j;obtain ⟨E,f1,X⟩:=(fl_ok z).1 _ W;exact DZ f1 (k:=k) (h b z M G w u _ R A λx al1 U1 a' w' M' Z hQ hd R' A' E' hl=>Jmp.use X R L hQ hd R' A' E' hl)
  ·rw[e] at j;simp at j
 |region id ad s=>
  simp only[cZ] at i;split at i
  ·cases s with
   |false=>simp at i
   |true=>simp only[if_true] at i;split at i <;> simp at i
  ·simp at i
 |seq c1 c2=>simp only[cZ] at i;split at i <;> simp at i
 |cond o c1 c2=>simp only[cZ] at i;split at i <;> simp at i
 |_=>simp[cZ] at i
end
end
end Go.Abs
end
