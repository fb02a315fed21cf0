/- TyPD, TyS1, TyL7, TyL8, TyL9, TySA, TySG, TyLA, TyLB -/
import Derived.Test.YtdfbphphacpkdaaGreatLawB
import Derived.KernelRfl
set_option linter.all false
section
namespace Go.Plain
open Go.Abs
theorem JG{l:List a_}(h:cH l)(n:Nat):cH (l.take n):=λi a=>by rw[km] at a;rw[He,He];exact h i (by omega)
theorem UY{l:List a_}(k:l.length<=300)(hs:cH l){id:Int}(h:∀j∈l,j.Id<id):Yq 5000 l id=some ((l.length:Int),false):=by
 unfold Yq;have e:(bo (λd (b:Int×Int)=>
   if (decide (b.1<b.2))=true then
    (
     (aB l (IntKind.i64.wrap (Int.fdiv (IntKind.u64.wrap (IntKind.i64.wrap (b.1+b.2))) (2 ^ 1)))).bind λm=>
     some (decide (m.Id≥id))).bind λn=>
    if (!n)=true then
     d ((IntKind.i64.wrap ((IntKind.i64.wrap (Int.fdiv (IntKind.u64.wrap (IntKind.i64.wrap (b.1+b.2))) (2 ^ 1)))+1)),b.2)
    else
     d (b.1,(IntKind.i64.wrap (Int.fdiv (IntKind.u64.wrap (IntKind.i64.wrap (b.1+b.2))) (2 ^ 1))))
   else
    some b.1) 5000 (0,(l.length:Int)))=some (l.length:Int):=by
  refine bY.eq (half k hs id (λj=>some (decide (j.Id<id))) (λj hj=>rfl) (λi=>some i) (λi o r p=>?_) _ (λf x=>?_))
  ·rw[aV];rcases Dx o with q | q
   ·have:=p i q (cn _);have:=h _ (bn q);omega
   ·rw[q]
  ·split
   ·cases aB l (IntKind.i64.wrap (Int.fdiv (IntKind.u64.wrap (IntKind.i64.wrap (x.1+x.2))) (2 ^ 1))) with
    |none=>rfl
    |some a=>
     simp only[Option.bind_some,eS,Vd,aQ];by_cases g:a.Id<id
     ·rw[if_pos g,if_pos (by omega)]
     ·rw[if_neg g,if_neg (by omega)]
   ·rfl
 rw[e,aE,dX,if_neg (by simp)]
theorem put_ok{l:List a_}{n:Nat}(a:n<l.length)(f:l.length<=300)(hs:cH l){m:Int}(hm:(l.length:Int)<=m)(hj:JM l[n]):zbJ 5000 (l.take n) l[n] m=some (l.take (n+1),0):=by
 obtain ⟨r,e,h⟩:=yk l[n];have d:=h.2 hj;subst d;have g:=hj.Bk;have b:(l.take n).length=n:=by rw[km];omega
 unfold zbJ;rw[e,aE,if_neg (by simp),UY (by omega) (JG hs n) (λj hj=>?_),aE]
 ·rw[if_neg (by simp),if_neg (by rw[b];simp;omega),Gx (by omega),aE];unfold zaM;have sl:slice? (l.take n) ((l.take n).length:Int) ((l.take n).length:Int)=some []:=by
   unfold slice?;rw[if_pos ⟨by omega,by omega,by omega⟩];simp
  rw[sl,aE,if_neg (by simp),if_pos (by simp),Bw (by rw[b];simp;omega),aE,aE,vU a]
 ·obtain ⟨i,k,rfl⟩:=jj hj;rw[He];exact hs.lt (by omega) a
def JQ(F:List aA)(l:List cN):List aA:=l.foldl qZ F
structure TInv (s:bq) (st:cM) (i:Nat) (x:Int×(List aA)×List (Int×cN)):Prop where
 ix:x.1=(i:Int)
 h:∃H,dO s st H (st.ai.drop i) x.2.1
 len:x.2.1.length=s.aq.length
 ZE:∀r∈x.2.1,aK r
 m:x.2.2=mapA (st.ai.take i)
 fr:x.2.1=JQ s.aq (st.ai.take i)
theorem Ms{s:bq}{st:cM}(q:Km s st):Mu st.ai:=by have h:=(yS q.cu q.spec.nodes.ok).1;unfold Mu;rw[h];exact Gm q.cC
theorem DO{s:bq}{st:cM}(q:Km s st):∀a∈st.ai,0<=a.bC/\a.bC<=1048576:=λa b=>by obtain ⟨j,hj,P⟩:=q.cu.mem a b;have:=(q.cC.each j hj).ok.id;have:=P.GZ;omega
theorem of_ok{s:bq}{st:cM}(hw:lF s st)(q:Km s st):zdp 5000 s st=some (.inr (st.aS.am,st.aw,(st.ai.map λa=>(a.bC,a)),s.aq,s.aF,s.am,s.aU,s.av.uD,s.av.ee,s.av.lS,s.av.cB,s.cE,s.Mode,s.aw,s.qy,s.aL,s.bR,s.fh,s.In,s.Out,s.cG,st.bz,st.Next,st.kf,st.ay,st.uU,st.aS.aq,s.aw,JQ s.aq st.ai)):=by
 have Y:=hw.cC;have Z:=hw.cu;have hn:=hw.spec.nodes;have W:=hw.dy;have hu:=hw.use;have hs:=hw.stamps;obtain ⟨r,e,h⟩:=IS hw;have k:=h.2 q;subst k;have jl:=q.cC.len;have K:=Ms q;unfold zdp;rw[e,aE,if_neg (by simp),new_ok hw.spec q.spec,aE];dsimp only;refine bY.eq ?_;refine jA st.aw.length (λi x=>x=((i:Int),st.aw.take i)) (λi x f d n k=>?_) (λx f n=>?_) rfl (by omega)
 ·subst n;simp only[cD d,if_true,bN d,Option.bind_some,bJ (show i<1000000 by omega),put_ok d Y q.cC.cA jl (q.cC.each _ (bn d)).ok,yCk,bA,bT];exact k _ rfl
 ·subst n;simp only[dX,bA,bT];refine jA st.ai.length (TInv s st) (λi x f d n k=>?_) (λx f n=>?_) ⟨rfl,⟨_,by rw[yCl];exact q.cu⟩,rfl,q.spec.nodes.ok,rfl,rfl⟩ (by omega)
  ·obtain ⟨x1,F,M⟩:=x;obtain ⟨t,A,u,E,p,v⟩:=n;dsimp only at t A u E p v;subst t;have X:=bn d;have N:=hw.sh _ X;obtain ⟨H,O⟩:=A;rw[yB4 d] at O;obtain ⟨j,hj,P⟩:=q.cu.mem _ X;have Q:=(q.cC.each j hj).ok;have o:yW F st.ai[i]/\∃R,dO s st R (st.ai.drop (i+1)) (qZ F st.ai[i]):=by
    cases H with
    |nil=>cases (show st.ai[i]::st.ai.drop (i+1)=[] from O)
    |cons j' R=>obtain ⟨a',A',e',-,hf,k⟩:=O;cases e';exact ⟨hf,R,k⟩
   have g:∀b∈st.ai.take i,b.bC≠st.ai[i].bC:=λb W=>by obtain ⟨m,U,rfl⟩:=jj W;rw[km] at U;rw[He];have:=We.1 K m i (by simp;omega) (by simpa using d) (by omega);rw[GB,GB] at this;omega
   have T:Mj M F st.ai[i]:=⟨by have:=Q.id;have:=P.GZ;omega,NK (by have:=Q.many;have:=P.Bv.tot;omega),by rw[u];exact P.Bv.shares,by rw[P.need];exact Q.need,by rw[p];exact OZ g,o.1⟩;simp only[cD d,if_true,bN d,Option.bind_some,bJ (show i<1000000 by omega)];refine (OG (M:=M) (a:=st.ai[i]) (F:=F) (by omega) N E).bind λr y=>?_;have z:=y.1.2 T;obtain ⟨eM,G⟩:=y.2 z;rw[z];simp only[yCk,bA,bT];refine k _ ⟨rfl,?_,?_,?_,?_,?_⟩
   ·dsimp only;rw[G.eq];exact o.2
   ·dsimp only;rw[G.eq,ib,u]
   ·dsimp only;rw[G.eq];exact qX o.1
   ·dsimp only;rw[eM,p,RK g,vU d]
   ·dsimp only;rw[G.eq,v,vU d,JQ,JQ,xAn];rfl
  ·obtain ⟨x1,F,M⟩:=x;obtain ⟨t,A,u,E,p,v⟩:=n;dsimp only at t A u E p v;subst t;simp only[dX,bA,bT];rw[show zaX 5000 st.ay=some st.ay from Gt (by omega),aE,show zba 5000 st.uU=some st.uU from Gt (by omega),aE,show zba 5000 st.aS.am=some st.aS.am from Gt (by omega),aE,aV];rw[p,v,uo,uo];rfl
theorem of_no{s:bq}{st:cM}(hw:lF s st)(q:¬Km s st):zdp 5000 s st=some (.inl 2):=by
 obtain ⟨r,e,h⟩:=IS hw;have:r=false:=by
  cases r with
  |false=>rfl
  |true=>exact absurd (h.1 rfl) q
 unfold zdp;rw[e,this];rfl
theorem shown{s:bq}{st:cM}(hw:lF s st)(q:Km s st) :
  Zf 5000 st.aS.am st.aw (st.ai.map λa=>(a.bC,a)) st.bz st.Next st.kf st.ay st.uU st.aS.aq=some st:=by
 have b:=hw.cC;have d:=hw.dy;have e:=hw.use;have hs:=hw.stamps;unfold Zf;rw[JU (by omega) hw.after,aE,show za3 5000 (st.ai.map λa=>(a.bC,a))=some st.ai from BP hw.cu (Ms q) (DO q) hw.sh,aE,yL (by omega),aE,pA (by omega),aE,show zbK 5000 st.aS.am=some st.aS.am from Gt (by omega),aE]
theorem QN{s:bq}{st:cM}(hw:lF s st)(q:Km s st):zbi 5000 s st=some (.inr (st.aS.am,st.aw,(st.ai.map λa=>(a.bC,a)),true,s.aq,s.aF,s.am,s.aU,s.av.uD,s.av.ee,s.av.lS,s.av.cB,s.cE,s.Mode,s.aw,s.qy,s.aL,s.bR,s.fh,s.In,s.Out,s.cG,st.bz,st.Next,st.kf,st.ay,st.uU,st.aS.aq,s.aw,JQ s.aq st.ai)):=by obtain ⟨r,b,h⟩:=Ed hw;have d:=h.2 q;subst d;unfold zbi;rw[of_ok hw q,aE];dsimp only;rw[b,aE,if_neg (by simp),shown hw q,aE,KT hw,aE]
theorem Qb{s:bq}{st:cM}(hw:lF s st)(q:¬Km s st):zbi 5000 s st=some (.inl true):=by
 obtain ⟨r,a,h⟩:=Ed hw;have:r=false:=by
  cases r with
  |false=>rfl
  |true=>exact absurd (h.1 rfl) q
 unfold zbi;rw[of_no hw q,aE];dsimp only;rw[a,this];rfl
theorem vF{s:bq}(hs:oV s) :
  zaZ 5000 s.aq s.aF s.am s.aU s.av.uD s.av.ee s.av.lS s.av.cB s.cE s.Mode s.aw s.qy s.aL s.bR s.fh s.In s.Out s.cG=some s:=by
 unfold zaZ;rw[show zcE 5000 _=some s from zQ hs];rfl
end Go.Plain
end
section
namespace Go.Plain
open Go.Abs
theorem yB{l:List Int}{n:Int}(h:mg l n):(l.length:Int)<=n∨l=[]:=by
 have b:∀i,i<l.length->(i:Int)<=l[i]!:=by
  intro i;induction i with
  |zero=>intro a;have:=(h 0 a).1;simp only[Ks] at this;simp only[a,yCe];omega
  |succ i ih=>intro a;have d:=ih (by omega);have e:=(h (i+1) a).1;rw[rU (by omega)] at e;simp only[a,show i<l.length by omega,yCe] at d ⊢;omega
 cases f:l.length with
 |zero=>exact .inr (PM f)
 |succ m=>left;have d:=b m (by omega);have e:=(h m (by omega)).2;simp only[show m<l.length by omega,yCe] at d;omega
theorem iQ{s:bq}(k:bS s):oV s:={
 nodes:=by have:=k.nodes.hi;omega
 parts:=by have:=k.parts.hi;omega
 fQ:=by have:=k.fQ.hi;omega
 part:=λp hp=>by
  have a:=yB (k.parts.ok p hp).2;have:=k.nodes.hi;rcases a with a | a
  ·omega
  ·rw[a];simp
 queue:=λq hq=>by
  have a:=yB (k.fQ.ok q hq).yO;have:=k.yO;rcases a with a | a
  ·omega
  ·rw[a];simp }
end Go.Plain
end
section
namespace Go.Plain
open Go.Abs
theorem PA{u:Ci}{k t a:Int}(h:a<=t)(d:¬(a<u.bH/\u.bH<=t))(e:¬(a<u.To/\u.To<=t)):mn u k t=mn u k a:=by
 unfold mn;by_cases b:u.bH<=a/\a<u.To
 ·rw[if_pos b,if_pos (by omega)]
 ·rw[if_neg b,if_neg (by omega)]
theorem FZ{L:List Ci}{k t a:Int}(h:∀u∈L,mn u k t=mn u k a):aW L k t=aW L k a:=by
 unfold aW;have:∀(M:List Ci)(r:aA),(∀u∈M,mn u k t=mn u k a)->M.foldl (λr u=>yr r (mn u k t)) r=M.foldl (λr u=>yr r (mn u k a)) r:=by
  intro M;induction M with
  |nil=>intro r _;rfl
  |cons u M ih=>intro r b;rw[xAd,xAd,b u (iz ..)];exact ih _ λv d=>b v (h_ _ d)
 exact this L _ h
theorem yJ{q:kj}{k t a:Int}(o:q.bz<=a)(h:a<=t)(e:∀x,q.bz<=x->OI q x->¬(a<x/\x<=t)):bP q k t=bP q k a:=by
 have n:aW q.L k t=aW q.L k a:=FZ λu f=>PA h (λg=>e u.bH (by omega) (.inr (.inl ⟨u,f,.inl rfl⟩)) g) λg=>e u.To (by omega) (.inr (.inl ⟨u,f,.inr rfl⟩)) g;have i:dg q.ay k t↔dg q.ay k a:=by
  constructor
  ·rintro ⟨b,d,h1,h2,h3⟩;refine ⟨b,d,h1,?_,by omega⟩;rcases ZH a b.bH with g | g
   ·exact absurd ⟨g,h2⟩ (e b.bH (by omega) (.inr (.inr ⟨b,d,.inl rfl⟩)))
   ·exact g
  ·rintro ⟨b,d,h1,h2,h3⟩;refine ⟨b,d,h1,by omega,?_⟩;rcases ZH t b.To with g | g
   ·exact g
   ·exact absurd ⟨h3,g⟩ (e b.To (by omega) (.inr (.inr ⟨b,d,.inr rfl⟩)))
 unfold bP;rw[n];by_cases m:dg q.ay k a
 ·rw[if_pos m,if_pos (i.2 m)]
 ·rw[if_neg m,if_neg λg=>m (i.1 g)]
theorem ya(T:List Int){a t:Int}(h:a<=t):∃x,(x=a∨x∈T)/\a<=x/\x<=t/\∀y∈T,y<=t->y<=x:=by
 induction T with
 |nil=>exact ⟨a,.inl rfl,Aa _,h,by simp⟩
 |cons y T ih=>
  obtain ⟨x,f,g,i,e⟩:=ih;by_cases q:x<y/\y<=t
  ·exact ⟨y,.inr (iz ..),by omega,q.2,λz b d=>by
    rcases eU.1 b with rfl | b
    ·omega
    ·have:=e z b d;omega⟩
  ·exact ⟨x,f.imp id (h_ _),g,i,λz b d=>by
    rcases eU.1 b with rfl | b
    ·omega
    ·exact e z b d⟩
structure ZZ (q:kj) (a b:Int) (F:List aA):Prop where
 len:F.length=q.S.aq.length
 low:∀(k:Nat)(h:k<F.length),LU (λt v=>v=bP q k t) a b F[k]
structure oY (q:kj) (w:CD):Prop where
 part:0<=w.Part/\w.Part<q.S.aF.length
 many:w.aJ<=100000
 need:aK w.az
 wu:w.az≠bL
 wall:1<=w.bm/\w.bm<=65536
def pG(q:kj)(w:CD):List Int:=(q.S.aF[w.Part.toNat]?).getD []
theorem iX{q:kj}{w:CD}(h:oY q w):aB q.S.aF w.Part=some (pG q w)/\pG q w∈q.S.aF:=by
 obtain ⟨a,e⟩:=ff h.part.1 h.part.2;have:pG q w=q.S.aF[w.Part.toNat]:=by unfold pG;rw[cT a,OE]
 rw[this];exact ⟨e,bn _⟩
def Sp(q:kj):Prop:=∀(k t:Int),0<=k->k<q.S.aq.length->q.bz<=t->aK (bP q k t)
theorem GL{V:Int->aA->Prop}{a b:Int}{r:aA}(h:LU V a b r)(d:∀t v,a<=t->V t v->aK v):aK r:=zW.2 λc=>by obtain ⟨t,v,f,i,g,e⟩:=h.iM c;have:=zW.1 (d t v f g) c;omega
theorem zZ{F:List aA}{k:Nat}(h:k<F.length):mV F (k:Int)=F[k]:=by unfold mV;rw[Xd,cT h,OE]
theorem EN{q:kj}(hq:yH q){w:CD}(hw:oY q w){F:List aA}(f:F.length=q.S.aq.length)(b:∀n∈pG q w,aK (mV F n)):vC F (pG q w):=by obtain ⟨_,a⟩:=iX hw;have d:=hq.spec.parts.ok _ a;have hs:=(iQ hq.spec).part _ a;refine ⟨by omega,λn e=>?_,b⟩;have:=d.2.mem n e;omega
theorem WS{q:kj}(hq:yH q)(U:Sp q){w:CD}(hw:oY q w){t:Int}(h0:q.bz<=t)(ht:t<=1099511627776) :
  bY (QS 5000 q w t) λr=>∃F,ZZ q t (t+w.bm) F/\r=dj F (pG q w) w.aJ w.az:=by
 have nn:=hq.spec.nodes.hi;have W:=hq.now;have wl:=hw.wall;unfold QS;rw[if_neg (by have:=hw.part;simp;omega),wr (x:=t+w.bm) (by omega) (by omega)];refine (Ig hq).bind λT K=>?_;have tl:=K.len;refine jA q.S.aq.length (λi x=>x.1=(i:Int)/\x.2.length=i/\∀(k:Nat)(h:k<x.2.length),LU (λt v=>v=bP q k t) t (t+w.bm) x.2[k]) (λi x f M a N=>?_) (λx f a=>?_) ⟨rfl,rfl,λk h=>by simp at h⟩ (by omega)
 ·obtain ⟨y,F⟩:=x;obtain ⟨rfl,m,o⟩:=a;dsimp only at m o ⊢;rw[if_pos (cD M)];refine (ER hq M (by omega)).bind λr e=>?_;rw[e];refine jA T.length (λj x=>∃v:aA,x=((j:Int),v.br,v.Mem,v.bx,v.bD)/\CL (bP q i t::((T.take j).filter λy=>decide (t<y/\y<t+w.bm)).map (bP q i)) v) (λj x X hj a b=>?_) (λx X a=>?_) ⟨bP q i t,rfl,CL.one _⟩ (by omega)
  ·obtain ⟨v,rfl,d⟩:=a;simp only[il];rw[if_pos (cD hj)];simp only[bN hj,Option.bind_some];rw[bJ (show j<1000000 by omega)];have p:(T.take (j+1)).filter (λy=>decide (t<y/\y<t+w.bm))=(T.take j).filter (λy=>decide (t<y/\y<t+w.bm))++(if t<T[j]/\T[j]<t+w.bm then [T[j]] else []):=by
    rw[vU hj,List.filter_append];simp only[List.filter_cons,List.filter_nil,aQ]
   have tm:=(K.mem T[j]).1 (bn hj);by_cases g:t<T[j]
   ·rw[if_pos (by simpa using g)];by_cases E:T[j]<t+w.bm
    ·rw[if_pos (by simpa using E)];refine (ER hq M (t:=T[j]) (by omega)).bind λG Y=>?_;have O:zcA 5000 ({ br:=v.br,Mem:=v.Mem,bx:=v.bx,bD:=v.bD }:aA) G.1=some (ri v G.1):=VN v G.1;rw[O,aE];rw[if_pos ⟨g,E⟩] at p;refine b _ ⟨ri v G.1,rfl,?_⟩;rw[p,Ic,<-List.cons_append,Y];exact d.add _
    ·rw[if_neg (by simpa using E)];rw[if_neg (λh=>E h.2),Kp] at p;exact b _ ⟨v,rfl,by rw[p];exact d⟩
   ·rw[if_neg (by simpa using g),if_neg (by simp)];rw[if_neg (λh=>g h.1),Kp] at p;exact b _ ⟨v,rfl,by rw[p];exact d⟩
  ·obtain ⟨v,rfl,d⟩:=a;dsimp only;rw[if_neg (by simp)];rw[uo] at d;have O:cf F ([({ br:=v.br,Mem:=v.Mem,bx:=v.bx,bD:=v.bD }:aA)]:List aA)=some (F++[v]):=Bw (by simp;omega);rw[O,aE,bJ (show i<1000000 by omega)];have low:LU (λt v=>v=bP q i t) t (t+w.bm) v:=by
    refine ⟨λu x Z h2 e c=>?_,λc=>?_⟩
    ·obtain ⟨z,A,z2,z3,z4⟩:=ya T Z;have hc:bP q i u=bP q i z:=yJ (by omega) z3 λy P Q R=>by
      have:=z4 y ((K.mem y).2 ⟨P,Q⟩) R.2;omega
     rw[e,hc];refine d.le _ ?_ c;by_cases g:z=t
     ·subst g;exact iz ..
     ·refine h_ _ (dY.2 ⟨z,Hk.2 ⟨?_,?_⟩,rfl⟩)
      ·rcases A with A | A
       ·exact absurd A g
       ·exact A
      ·simp only[aQ];omega
    ·obtain ⟨x,a,e⟩:=d.iM c;rcases eU.1 a with rfl | a
     ·exact ⟨t,_,Aa _,by omega,rfl,e⟩
     ·obtain ⟨z,hz,rfl⟩:=dY.1 a;have:=(Hk.1 hz).2;simp only[aQ] at this;exact ⟨z,_,by omega,this.2,rfl,e⟩
   refine N _ ⟨rfl,by simp[m],λk h=>?_⟩;by_cases g:k<F.length
   ·dsimp only at h ⊢;rw[yBw g];exact o k g
   ·have:k=i:=by dsimp only at h;rw[Jw,xAk] at h;omega
    subst this;dsimp only;rw[xAq (by omega)];simp only[List.getElem_singleton];exact low
 ·obtain ⟨y,F⟩:=x;obtain ⟨rfl,m,o⟩:=a;dsimp only at m o ⊢;obtain ⟨ep,hm⟩:=iX hw;have hP:vC F (pG q w):=EN hq hw m λn hn=>by
   have kp:=(hq.spec.parts.ok _ hm).2.mem n hn;have e:mV F n=F[n.toNat]:=(vy kp.1 (by omega)).2.2;rw[e];exact GL (o n.toNat (by omega)) λu x hu a=>by rw[a];exact U _ u (by omega) (by omega) (by omega)
  rw[if_neg (by simp),ep,aE,SK hP hw.need hw.wu hw.many,aE,aV];exact ⟨F,⟨m,o⟩,rfl⟩
structure PR (nodes:List (List bF)) (q:kj) (L:Nat):Prop where
 len:nodes.length=q.S.aq.length
 iM:zJ nodes q.bz L
 val:∀(k:Nat)(h:k<nodes.length)(t:Int),q.bz<=t->uN nodes[k] t (bP q k t)
theorem PR.right{nodes:List (List bF)}{q:kj}{L:Nat}(h:PR nodes q L):Sp q:=λk t o hk u=>by
 have i:k.toNat<nodes.length:=by rw[h.len];omega
 have:=(h.val k.toNat i t u).ok (h.iM.each _ i).1
 rwa [yCb o] at this
theorem PR.iff{nodes:List (List bF)}{q:kj}{L:Nat}(h:PR nodes q L){k:Nat}(hk:k<nodes.length){t:Int}(i:q.bz<=t){v:aA}:uN nodes[k] t v↔v=bP q k t:=
 ⟨λo=>o.t_ (h.iM.each k hk).1 (h.val k hk t i),λe=>by rw[e];exact h.val k hk t i⟩
theorem GP{nodes:List (List bF)}{q:kj}{L:Nat}(hL:L<=900)(hq:yH q)(hp:PR nodes q L){w:CD}(hw:oY q w){t:Int}(U:q.bz<=t)(W:t<=1099511627776) :
  bY (zaD 5000 nodes w.Part w.aJ w.az w.bm t q.bz q.S.aF) λr=>∃F,F.length=q.S.aq.length/\(∀n∈pG q w,LU (λu v=>v=bP q n u) t (t+w.bm) (mV F n))/\r=dj F (pG q w) w.aJ w.az:=by
 have nn:=hq.spec.nodes.hi;have O:=hq.now;have X:=hw.wall;obtain ⟨P,G⟩:=iX hw;have p:=hq.spec.parts.ok _ G;have pl:=(iQ hq.spec).part _ G;have Q:=hp.right;unfold zaD;rw[if_neg (by have:=hw.part;simp;omega),wr (x:=t+w.bm) (by omega) (by omega),Mc _ (by rw[hp.len];omega),aE,P,aE];have K:=hp.len;refine jA (pG q w).length (λi x=>x.1=(i:Int)/\x.2.length=nodes.length/\∀n∈(pG q w).take i,LU (λu v=>v=bP q n u) t (t+w.bm) (mV x.2 n)) (λi x f m e z=>?_) (λx f e=>?_) ⟨rfl,by simp,λn h=>by simp at h⟩ (by omega)
 ·obtain ⟨y,F⟩:=x;obtain ⟨rfl,o,d⟩:=e;dsimp only at o d ⊢;have A:=p.2.mem _ (bn m);obtain ⟨k,M⟩:∃k:Nat,(pG q w)[i]=(k:Int):=⟨((pG q w)[i]).toNat,by omega⟩;have hk:k<nodes.length:=by omega
  obtain ⟨N,lk⟩:=hp.iM.each k hk;have f0:=hp.iM.first k hk N.ne;rw[if_pos (cD m),bN m,aE,M,bN hk,aE];refine (Io (by omega) N (a:=t) (by omega) (show t<t+w.bm by omega)).bind λr E=>?_;rw[bN (show k<F.length by omega),aE,bJ (show i<1000000 by omega),Xd];refine z _ ⟨rfl,by simp[o],λn b=>?_⟩;have low:LU (λu v=>v=bP q k u) t (t+w.bm) r:=E.iff λu v R=>hp.iff hk (by omega);dsimp only;by_cases g:n=(k:Int)
  ·subst g;have:mV (F.set k r) (k:Int)=r:=by rw[zZ (by simp;omega)];simp
   rw[this];exact low
  ·have:mV (F.set k r) n=mV F n∨n<0:=by
    rcases ZH n 0 with h | h
    ·exact .inr h
    ·left;unfold mV;rw[yBX (by omega)]
   rw[vU m,mw,nL] at b;rcases b with b | b
   ·have nb:=p.2.mem n (Kw b);rcases this with this | this
    ·rw[this];exact d n b
    ·omega
   ·exact absurd (b.trans M) g
 ·obtain ⟨y,F⟩:=x;obtain ⟨rfl,o,d⟩:=e;dsimp only at o d ⊢;rw[uo] at d;have T:vC F (pG q w):=EN hq hw (by omega) λn A=>by
   have nb:=p.2.mem n A;exact GL (d n A) λu x R e=>by rw[e];exact Q n u (by omega) (by omega) (by omega)
  rw[if_neg (by simp),aE,Vq T hw.need hw.wu hw.many,aE,aV];exact ⟨F,by omega,d,rfl⟩
theorem wB{nodes:List (List bF)}{q:kj}{L:Nat}(hL:L<=900)(hq:yH q)(hp:PR nodes q L){w:CD}(hw:oY q w){t:Int}(f:q.bz<=t)(g:t<=1099511627776) :
  ∃F,ZZ q t (t+w.bm) F/\vC F (pG q w)/\zaD 5000 nodes w.Part w.aJ w.az w.bm t q.bz q.S.aF=some (dj F (pG q w) w.aJ w.az)/\QS 5000 q w t=some (dj F (pG q w) w.aJ w.az):=by
 have h:=hp.right;have p:=hq.now;obtain ⟨r,e,F,d,rfl⟩:=WS hq h hw f g;obtain ⟨E,i,G,K,b,rfl⟩:=GP hL hq hp hw f g;obtain ⟨M,v⟩:=iX hw;have k:=hq.spec.parts.ok _ v;have m:∀n∈pG q w,mV G n=mV F n:=λn a=>by have nb:=k.2.mem n a;obtain ⟨y,_,z⟩:=vy (F:=F) nb.1 (by rw[d.len];exact nb.2);have o:=d.low n.toNat y;rw[yCb nb.1] at o;rw[z];exact (b n a).t_ o
 rw[GD m] at i;refine ⟨F,d,EN hq hw d.len λn a=>?_,i,e⟩;have nb:=k.2.mem n a;rw[<-m n a];exact GL (b n a) λu x N A=>by rw[A];exact h n u (by omega) (by omega) (by omega)
end Go.Plain
end
section
namespace Go.Plain
open Go.Abs
theorem zeG{zs:List Int}{j:Nat}(h:j<zs.length):zs.toArray[j]! = zs[j]:=by rw[yCe _ _ (by simpa using h)];simp
theorem Jc(zs:List Int)(x:Int):x∈Lib.compact zs↔x∈zs:=by
 unfold Lib.compact Lib.compactUpTo;constructor
 ·intro h;obtain ⟨j,hj,rfl⟩:=dY.1 h;have:=XZ.1 (Hk.1 hj).1;rw[zeG this];exact bn _
 ·intro h;obtain ⟨j,hj,rfl⟩:=jj h;have:∀j (hj:j<zs.length),zs[j]∈((List.range zs.length).filter (Lib.keeps zs.toArray)).map (zs.toArray[·]!):=by
   intro j;induction j with
   |zero=>intro hj;exact dY.2 ⟨0,Hk.2 ⟨XZ.2 hj,by simp[Lib.keeps]⟩,zeG hj⟩
   |succ j ih=>
    intro hj;by_cases e:zs[j+1]=zs[j]
    ·rw[e];exact ih (by omega)
    ·refine dY.2 ⟨j+1,Hk.2 ⟨XZ.2 hj,?_⟩,zeG hj⟩;unfold Lib.keeps;rw[aQ];right;rw[zeG hj,Nat.add_sub_cancel,zeG (show j<zs.length by omega)];exact e
  exact this j hj
theorem BR{zs:List Int}(h:zs.Pairwise λa b=>a<=b):(Lib.compact zs).Pairwise λa b=>a<=b:=by unfold Lib.compact Lib.compactUpTo;rw[List.pairwise_map];have:((List.range zs.length).filter (Lib.keeps zs.toArray)).Pairwise (·<·):=List.pairwise_lt_range.sublist (List.filter_sublist);refine this.imp_of_mem λ{a b} g i d=>?_;have e:=XZ.1 (Hk.1 g).1;have f:=XZ.1 (Hk.1 i).1;rw[zeG e,zeG f];exact We.1 h a b e f d
theorem eqL_ok{R:Type}{a b:Nat}(h:a=b)(k:Option R):Kt a b k=k:=by subst h;unfold Kt;rw[yCf]
structure Vl (nodes:List (List bF)) (part:List Int) (T:List Int):Prop where
 cA:T.Pairwise λa b=>a<=b
 mem:∀x,x∈T↔∃n∈part,∃s∈(nodes[n.toNat]?).getD [],s.At=x
theorem Qe{l:List Int}(g:l.length<=1000000){Q:List Int->Prop}(h:∀T,T.Pairwise (λa b=>a<=b)->(∀x,x∈T↔x∈l)->T.length<=l.length->Q T) :
  bY ((zb2 5000 l).bind λe=>Kt l.length e.length<|(zby 5000 e).bind λf=>some f.2) Q:=by
 unfold zb2 zby IU;have d:∀m:List Int,m.map (λk=>k)=m:=λm=>List.map_id' m;rw[if_pos g,aE,d,d,eqL_ok (yBF l).symm];unfold Hw;rw[if_pos (by rw[yBF];exact g),aE,aV,d,d];have i:∀a b c:Int,decide (a<=b)=true->decide (b<=c)=true->decide (a<=c)=true:=λa b c o p=>by simp at *;omega
 have n:∀a b:Int,(decide (a<=b) || decide (b<=a))=true:=λa b=>by simp;omega
 have hs:(l.mergeSort λx y=>decide (x<=y)).Pairwise λa b=>a<=b:=(List.pairwise_mergeSort i n l).imp λ{a b} h=>by simpa using h
 refine h _ (BR hs) (λx=>?_) (by have:=la (l.mergeSort λx y=>decide (x<=y));rw[yBF] at this;exact this);rw[Jc,(List.mergeSort_perm l _).mem_iff]
theorem Cr{nodes:List (List bF)}{q:kj}{L:Nat}(hL:L<=200)(hq:yH q)(hp:PR nodes q L){w:CD}(hw:oY q w) :
  bY (zbS 5000 nodes w.Part q.S.aF) λT=>Vl nodes (pG q w) T/\T.length<=3200:=by
 have nn:=hq.spec.nodes.hi;obtain ⟨A,E⟩:=iX hw;have u:=hq.spec.parts.ok _ E;have pl:(pG q w).length<=16:=by
  rcases yB u.2 with h | h
  ·omega
  ·rw[h];simp
 have v:=hp.len;unfold zbS;rw[if_neg (by have:=hw.part;simp;omega),A,aE];refine jA (pG q w).length (λi x=>x.1=(i:Int)/\x.2.length<=200 * i/\∀y,y∈x.2↔∃n∈(pG q w).take i,∃s∈(nodes[n.toNat]?).getD [],s.At=y) (λi x f o d F=>?_) (λx f d=>?_) ⟨rfl,by simp,λy=>by simp⟩ (by omega)
 ·obtain ⟨y,T⟩:=x;obtain ⟨rfl,p,e⟩:=d;dsimp only at p e ⊢;have K:=u.2.mem _ (bn o);obtain ⟨k,z⟩:∃k:Nat,(pG q w)[i]=(k:Int):=⟨((pG q w)[i]).toNat,by omega⟩;have hk:k<nodes.length:=by omega
  obtain ⟨M,lk⟩:=hp.iM.each k hk;rw[if_pos (cD o),bN o,aE,z,bN hk,aE];refine jA nodes[k].length (λj x=>x.1=(j:Int)/\x.2.length=T.length+j/\∀y,y∈x.2↔y∈T∨∃s∈nodes[k].take j,s.At=y) (λj x G hj d r=>?_) (λx G d=>?_) ⟨rfl,rfl,λy=>by simp⟩ (by omega)
  ·obtain ⟨y,U⟩:=x;obtain ⟨rfl,t,g⟩:=d;dsimp only at t g ⊢;rw[if_pos (cD hj),bN hj,aE,Bw (by simp;omega),aE,bJ (show j<1000000 by omega)];refine r _ ⟨rfl,by simp;omega,λy=>?_⟩;dsimp only;rw[mw,nL,g,or_assoc];refine or_congr_right ?_;constructor
   ·rintro (⟨s,a,b⟩ | h)
    ·exact ⟨s,(QZ hj).2 (.inl a),b⟩
    ·exact ⟨_,(QZ hj).2 (.inr rfl),h.symm⟩
   ·rintro ⟨s,a,b⟩;rcases (QZ hj).1 a with a | a
    ·exact .inl ⟨s,a,b⟩
    ·rw[a] at b;exact .inr b.symm
  ·obtain ⟨y,U⟩:=x;obtain ⟨rfl,t,g⟩:=d;dsimp only at t g ⊢;rw[if_neg (by simp),bJ (show i<1000000 by omega)];rw[uo] at g;refine F _ ⟨rfl,by dsimp only;omega,λy=>?_⟩;dsimp only;rw[g,e,vU o];have m:(nodes[((pG q w)[i]).toNat]?).getD []=nodes[k]:=by rw[z,Xd,cT hk,OE]
   constructor
   ·rintro (⟨n,a,b⟩ | h)
    ·exact ⟨n,Ri _ a,b⟩
    ·exact ⟨_,Wy _ (nL.2 rfl),by rw[m];exact h⟩
   ·rintro ⟨n,a,b⟩;rcases mw.1 a with a | a
    ·exact .inl ⟨n,a,b⟩
    ·rw[nL.1 a,m] at b;exact .inr b
 ·obtain ⟨y,T⟩:=x;obtain ⟨rfl,p,e⟩:=d;dsimp only at p e ⊢;rw[if_neg (by simp)];rw[uo] at e;exact Qe (by omega) λU a b N=>⟨⟨a,λx=>(b x).trans (e x)⟩,by omega⟩
def bW(q:kj)(w:CD)(t:Int):List dq×Bool:=(QS 5000 q w t).getD ([],false)
structure oJ (q:kj) (w:CD) (T:List Int) (r:zn×Bool):Prop where
 yes:r.2=true->r.1.At∈T/\(bW q w r.1.At).2=true/\(∀s∈T,(bW q w s).2=true->r.1.At<=s)/\r.1.bC=0/\r.1.ah=(bW q w r.1.At).1
 no:r.2=false->(∀s∈T,(bW q w s).2=false)/\r.1={ bC:=0,At:=0,ah:=[] }
section
variable{nodes:List (List bF)}{q:kj}{L:Nat}(hL:L<=200)(hq:yH q)(hp:PR nodes q L){w:CD}(hw:oY q w)
include hL hq hp hw
theorem yD{t:Int}(b:q.bz<=t):zaD 5000 nodes w.Part w.aJ w.az w.bm t q.bz q.S.aF=some (bW q w t)/\QS 5000 q w t=some (bW q w t):=by
 by_cases d:t<=1099511627776
 ·obtain ⟨F,_,_,e,a⟩:=wB (by omega) hq hp hw b d;have:bW q w t=dj F (pG q w) w.aJ w.az:=by unfold bW;rw[a];rfl
  rw[this];exact ⟨e,a⟩
 ·have a:QS 5000 q w t=some ([],false):=by
   unfold QS;rw[if_pos (by simp;omega)]
  have:bW q w t=([],false):=by unfold bW;rw[a];rfl
  rw[this];refine ⟨?_,a⟩;unfold zaD;rw[if_pos (by simp;omega)]
theorem OY:bY (zaU 5000 q w) λr=>∃T,wk q T/\oJ q w T r:=by
 unfold zaU;refine (Ig hq).bind λT a=>?_;have n:=a.len;refine um T (λ_ t=>(bW q w t).2=false) (λi f b d k=>?_) (λf d=>?_) (by omega)
 ·have m:=(a.mem T[i]).1 (bn b);rw[if_pos (cD b),bN b,aE,(yD hL hq hp hw m.1).2,aE,aZ,bJ (show i<1000000 by omega)];refine ⟨λh=>?_,λh=>k (by simpa using h)⟩;rw[aE,aV];refine ⟨T,a,⟨λ_=>⟨bn b,h,λs hs e=>?_,rfl,rfl⟩,λh=>by simp at h⟩⟩;obtain ⟨j,hj,rfl⟩:=jj hs;dsimp only;rcases Qc j i with g | g | g
  ·have:=d j hj g;rw[this] at e;cases e
  ·subst g;omega
  ·have:=We.1 a.cA i j b hj g;omega
 ·rw[if_neg (by simp),aV];exact ⟨T,a,⟨λh=>by simp at h,λ_=>⟨BZ (A:=λt=>(bW q w t).2=false) d,rfl⟩⟩⟩
theorem DT{T:List Int}(b:Vl nodes (pG q w) T):q.bz∈T/\∀x∈T,q.bz<=x:=by
 obtain ⟨k,h⟩:=iX hw;have d:=hq.spec.parts.ok _ h;have e:=hp.len;constructor
 ·have f:0<(pG q w).length:=by omega
  have g:=d.2.mem _ (bn f);have hk:((pG q w)[0]).toNat<nodes.length:=by omega
  obtain ⟨a,lk⟩:=hp.iM.each _ hk;refine (b.mem _).2 ⟨_,bn f,nodes[((pG q w)[0]).toNat][0]'a.ne,?_,hp.iM.first _ hk a.ne⟩;rw[cT hk,OE];exact bn _
 ·intro x i;obtain ⟨n,g,s,hs,rfl⟩:=(b.mem x).1 i;have nb:=d.2.mem n g;have hk:n.toNat<nodes.length:=by omega
  obtain ⟨a,lk⟩:=hp.iM.each _ hk;rw[cT hk,OE] at hs;obtain ⟨j,hj,rfl⟩:=jj hs;have:=hp.iM.first _ hk a.ne;have:=a.le (KZ j) hj;omega
theorem KU:bY (za1 5000 nodes w.Part w.aJ w.az w.bm q.bz q.S.aF) fun r=>∃T,Vl nodes (pG q w) T∧oJ q w T r:=by
 unfold za1
 refine (Cr hL hq hp hw).bind fun T a=>?_
 obtain ⟨a,F⟩:=a
 have k:=(DT hL hq hp hw a).2
 have fin:∀i (m:i<T.length),(∀j (hj:j<T.length),j<i→(bW q w T[j]).2=false)→(bW q w T[i]).2=true→oJ q w T ({ bC:=0,At:=T[i],ah:=(bW q w T[i]).1 },true):=fun i m b h=>
  ⟨fun _=>⟨bn m,h,fun s hs e=>by
   obtain ⟨j,hj,rfl⟩:=jj hs
   dsimp only
   rcases Qc j i with g | g | g
   ·have:=b j hj g; rw [this] at e; cases e
   ·subst g; omega
   ·have:=We.1 a.cA i j m hj g; omega,rfl,rfl⟩,fun h=>by simp at h⟩
 have none:(∀j (hj:j<T.length),(bW q w T[j]).2=false)→oJ q w T ({ bC:=0,At:=0,ah:=[] },false):=fun b=>
  ⟨fun h=>by simp at h,fun _=>⟨BZ (A:=fun t=>(bW q w t).2=false) b,rfl⟩⟩
 rw [aZ]
 refine ⟨fun h=>?_,fun h=>?_⟩
 ·rw [aV]
  exact ⟨T,a,none fun j hj=>by simp only [lO] at h; omega⟩
 ·have n:0<T.length:=by simp only [lO] at h; omega
  have y:aB T 0=some T[0]:=bN n
  rw [y,Option.bind_some,(yD hL hq hp hw (k _ (bn n))).1,Option.bind_some,aZ]
  refine ⟨fun o=>?_,fun o=>?_⟩
  ·rw [Option.bind_some,aV]
   exact ⟨T,a,fin 0 n (fun j _ h=>by omega) o⟩
  ·refine jA (T.length-1) (fun i x=>x=(T,((i+1:Nat):Int))∧∀j (hj:j<T.length),j<i+1→(bW q w T[j]).2=false) (fun i x f m p z=>?_) (fun x f p=>?_) ⟨rfl,fun j hj E=>?_⟩ (by omega)
   ·obtain ⟨rfl,b⟩:=p
    have d:i+1<T.length:=by omega
    dsimp only
    rw [if_neg (by simp only [lO]; omega),bN d,Option.bind_some,(yD hL hq hp hw (k _ (bn d))).1,Option.bind_some,aZ]
    refine ⟨fun e=>?_,fun e=>?_⟩
    ·rw [Option.bind_some,aV]
     exact ⟨T,a,fin (i+1) d b e⟩
    ·rw [bJ (show i+1<1000000 by omega)]
     refine z _ ⟨rfl,fun j hj u=>?_⟩
     rcases Dx (Kv.1 u) with v | v
     ·exact b j hj v
     ·subst v; simpa using e
   ·obtain ⟨rfl,b⟩:=p
    dsimp only
    rw [if_pos (by simp only [lO]; omega),aV]
    exact ⟨T,a,none fun j hj=>b j hj (by omega)⟩
   ·obtain rfl:j=0:=by omega
    simpa using o
theorem DY{t a:Int}(r:q.bz<=a)(h:a<=t)(x:∀n∈pG q w,∀u,a<=u->u<=t->bP q n u=bP q n t)(b:(bW q w t).2=true):(bW q w a).2=true:=by
 have U:=hp.right;have y:=hq.now;have W:=hw.wall;have z:t<=1099511627776:=by
  rcases ZH 1099511627776 t with g | g
  ·exfalso;have A:QS 5000 q w t=some ([],false):=by
    unfold QS;rw[if_pos (by simp;omega)]
   unfold bW at b;rw[A] at b;simp at b
  ·exact g
 obtain ⟨F,k,d,_,e⟩:=wB (by omega) hq hp hw (show q.bz<=t by omega) z;obtain ⟨G,m,f,_,E⟩:=wB (by omega) hq hp hw r (by omega);have w1:bW q w t=dj F (pG q w) w.aJ w.az:=by unfold bW;rw[e];rfl
 have w2:bW q w a=dj G (pG q w) w.aJ w.az:=by unfold bW;rw[E];rfl
 rw[w1] at b;rw[w2];obtain ⟨K,M⟩:=yp.1 b;refine yp.2 ⟨K,Int.le_trans M (KV d f hw.need λn o c=>?_)⟩;have nb:=d.node n o;obtain ⟨N,_,O⟩:=vy (F:=F) nb.1 nb.2;obtain ⟨P,_,Q⟩:=vy (F:=G) nb.1 (by rw[m.len,<-k.len];exact nb.2);have i:=k.low _ N;have p:=m.low _ P;rw[yCb nb.1] at i p;rw[O,Q];obtain ⟨u,v,R,X,T,ev⟩:=p.iM c;rw[<-ev,T];by_cases g:u<t
 ·rw[x n o u R (by omega)];exact i.le t _ (Aa _) (by omega) rfl c
 ·exact i.le u _ (by omega) (by omega) rfl c
theorem VG{t:Int}(a:(bW q w t).2=true):t<=1099511627776:=by
 rcases ZH 1099511627776 t with g | g
 ·exfalso;have b:QS 5000 q w t=some ([],false):=by
   unfold QS;rw[if_pos (by simp;omega)]
  unfold bW at a;rw[b] at a;simp at a
 ·exact g
theorem U_:∃r,za1 5000 nodes w.Part w.aJ w.az w.bm q.bz q.S.aF=some r/\zaU 5000 q w=some r/\(∃T,wk q T/\oJ q w T r):=by
 obtain ⟨r,e,T,K,P⟩:=OY hL hq hp hw;obtain ⟨Q,e',M,E,g⟩:=KU hL hq hp hw;obtain ⟨ep,hm⟩:=iX hw;have kp:=hq.spec.parts.ok _ hm;have aa:=hp.len;have F:=DT hL hq hp hw E;have h:∀t∈T,(bW q w t).2=true->∃k∈M,k<=t/\(bW q w k).2=true:=λt R U=>by
  have N:=(K.mem t).1 R;obtain ⟨x,d,O,m,W⟩:=ya M (a:=q.bz) N.1;have X:x∈M:=by
   rcases d with d | d
   ·rw[d];exact F.1
   ·exact d
  refine ⟨x,X,m,DY hL hq hp hw O m (λn Y u u1 u2=>?_) U⟩;have nb:=kp.2.mem n Y;have hk:n.toNat<nodes.length:=by omega
  have v1:=hp.val n.toNat hk u (by omega);have v2:=hp.val n.toNat hk t N.1;rw[yCb nb.1] at v1 v2;obtain ⟨s,s1,Z,o,s4⟩:=v2;have sx:s.At<=x:=W _ ((E.mem _).2 ⟨n,Y,s,by rw[cT hk,OE];exact s1,rfl⟩) Z;exact v1.t_ (hp.iM.each _ hk).1 ⟨s,s1,by omega,λs' v A=>o s' v (by omega),s4⟩
 have f:∀t∈M,(bW q w t).2=true->∃k∈T,k<=t/\(bW q w k).2=true:=λt R U=>by
  have N:=F.2 t R;obtain ⟨x,d,O,m,W⟩:=ya T (a:=q.bz) N;have X:x∈T:=by
   rcases d with d | d
   ·rw[d];exact (K.mem _).2 ⟨Aa _,.inl rfl⟩
   ·exact d
  refine ⟨x,X,m,DY hL hq hp hw O m (λn Y u u1 u2=>?_) U⟩;have c:∀y,x<=y->y<=t->bP q n y=bP q n x:=λy y1 y2=>yJ O y1 λz z1 z2 z3=>by have:=W z ((K.mem z).2 ⟨z1,z2⟩) (by omega);omega
  rw[c u u1 u2,c t m (Aa _)]
 have:Q=r:=by
  obtain ⟨p,b⟩:=r;obtain ⟨p',b'⟩:=Q;cases b with
  |true=>
   obtain ⟨v,A,h3,h4,h5⟩:=P.yes rfl;dsimp only at v A h3 h4 h5;obtain ⟨k,t1,t2,t3⟩:=h _ v A;cases b' with
   |true=>
    obtain ⟨G,i,g3,g4,g5⟩:=g.yes rfl;dsimp only at G i g3 g4 g5;obtain ⟨s',s1,Z,o⟩:=f _ G i;have:=g3 _ t1 t3;have:=h3 _ s1 o;have ea:p'.At=p.At:=by omega
    have:p'=p:=by obtain ⟨a1,a2,a3⟩:=p;obtain ⟨b1,b2,b3⟩:=p';dsimp only at *;subst ea;rw[h4,g4,h5,g5]
    rw[this]
   |false=>have:=(g.no rfl).1 _ t1;rw[this] at t3;cases t3
  |false=>
   obtain ⟨v,A⟩:=P.no rfl;cases b' with
   |true=>obtain ⟨G,i,_⟩:=g.yes rfl;obtain ⟨s',s1,Z,o⟩:=f _ G i;have:=v _ s1;rw[this] at o;cases o
   |false=>obtain ⟨G,i⟩:=g.no rfl;dsimp only at A i;rw[A,i]
 subst this;exact ⟨Q,e',e,T,K,P⟩
end
end Go.Plain
end
section
namespace Go.Plain
open Go.Abs
def dG(u:Ci):iC:={ az:=u.az,ah:=u.ah,me:=u.To }
structure Tb (q:kj):Prop where
 ref:yH q
 lo:∀u∈q.L,u.bH=q.bz/\q.bz<u.To
 caps:∀(i k:Nat)(h:k<q.S.aq.length)(t:Int)(c:Nat),cmp c (aW (q.L.take i) k t)<=cmp c q.S.aq[k]
 live:∀b∈q.ay,q.bz<b.To
 DF:∀b∈q.ay,∀t,b.bH<=t->q.bz<=t->aW q.L b.Node t=bL
theorem KD{q:kj}(h:Tb q):gg 5000 (q.L.map dG) q.bz q.S.aq.length=some true:=by
 have r:=h.ref.Hm;unfold gg;refine bY.eq (um (q.L.map dG) (λ_ _=>True) (λi f b _ d=>?_) (λf t=>?_) (by simp;omega))
 ·have a:i<q.L.length:=by simpa using b
  have u:=h.ref.used _ (bn a);have v:=h.lo _ (bn a);have e:(q.L.map dG)[i]=dG q.L[i]:=GB ..;obtain ⟨x,g,k⟩:=qP (dG q.L[i]).ah q.S.aq.length u.Hm;have:=k.2 u.shares;subst this;obtain ⟨y,m,n⟩:=Rt (dG q.L[i]).az;have:=n.2 u.need;subst this;rw[if_pos (cD b),bN b,e,aE,il,g,aE,if_neg (by simp),m,aE];have o:decide ((dG q.L[i]).me<=q.bz)=false:=by show decide (q.L[i].To<=q.bz)=false;simp;omega
  have p:decide ((dG q.L[i]).me > 281474976710656)=false:=by show decide (q.L[i].To > _)=false;have:=u.hi;simp;omega
  rw[o,p];dsimp only;rw[if_neg (by simp),bJ (show i<1000000 by omega)];exact d trivial
 ·rw[if_neg (by simp),aV]
theorem Kf{a:Int}{r:aA}(h:0<=a/\a<=1099511627776)(b:aK r):dh [({ At:=a,bQ:=r }:bF)]:=
 ⟨by simp,λi d=>by simp at d,λs hs=>by rw[nL.1 hs];exact ⟨by dsimp only;omega,b⟩⟩
theorem PN{a:Int}{r:aA}(h:0<=a/\a<=1099511627776)(b:aK r):tx 5000 a r=some ([{ At:=a,bQ:=r }],0):=by unfold tx;rw[eC (by simp) (Kf h b),aE,if_neg (by simp)]
theorem GQ{q:kj}(k:bS q.S){i:Nat}(a:i<q.S.aq.length):aK q.S.aq[i]:=k.nodes.ok _ (bn a)
theorem Iy{q:kj}(h:Tb q):bY (zee 5000 (q.L.map dG) q.S q.bz q.ay) λr=>∃nodes,r=.inr (nodes,q.bz,q.S.aF)/\PR nodes q (1+2 * (q.L.length+q.ay.length)):=by
 have hq:=h.ref;have hs:=iQ hq.spec;have nn:=hq.spec.nodes.hi;have af:=hq.now;have hf:=hq.Hm;have hb:=hq.dy.len;unfold zee;obtain ⟨rb,eb,a0⟩:=B_ q.ay q.S.aq.length (by omega);have:=a0.2 hq.dy;subst this;rw[il,tq hs hq.spec,aE,if_neg (by simp;omega),eb,aE,if_neg (by simp),KD h,aE];dsimp only;rw[if_neg (by simp)];have ax:=hs.parts;refine jA q.S.aF.length (λi x=>x=((i:Int),q.S.aF.take i)) (λi x f o G Z=>?_) (λx f G=>?_) rfl (by omega)
 ·subst G;have pl:=hs.part _ (bn o);dsimp only;rw[if_pos (cD o),bN o,aE];unfold ZG;rw[Gt (by omega),aE,Bw (by simp;omega),aE,bJ (show i<1000000 by omega)];exact Z _ (by rw[vU o])
 subst G;dsimp only;rw[if_neg (by simp),uo];refine jA q.S.aq.length (λi x=>x.1=(i:Int)/\x.2=(q.S.aq.take i).map λr=>[({ At:=q.bz,bQ:=r }:bF)]) (λi x f o G Z=>?_) (λx f G=>?_) ⟨rfl,rfl⟩ (by omega)
 ·obtain ⟨y,M⟩:=x;obtain ⟨rfl,rfl⟩:=G;dsimp only;rw[if_pos (cD o),bN o,aE,PN af (GQ hq.spec o),aE,if_neg (by simp),Bw (by simp;omega),aE,bJ (show i<1000000 by omega)];exact Z _ ⟨rfl,by rw[vU o,Ic];rfl⟩
 obtain ⟨y,M0⟩:=x;obtain ⟨rfl,rfl⟩:=G;dsimp only;rw[if_neg (by simp),uo];have ak:∀(r:aA)(t:Int),q.bz<=t->uN [({ At:=q.bz,bQ:=r }:bF)] t r:=λr t K=>⟨_,nL.2 rfl,K,λs' E _=>by rw[nL.1 E];exact Aa _,rfl⟩;refine jA (q.L.map dG).length (λi x=>x.1=(i:Int)/\x.2.length=q.S.aq.length/\zJ x.2 q.bz (1+2 * i)/\∀(k:Nat)(E:k<x.2.length)(U:k<q.S.aq.length)(t:Int),q.bz<=t->uN x.2[k] t (jF q.S.aq[k] (aW (q.L.take i) k t))) (λi x f o G Z=>?_) (λx f G=>?_) ⟨rfl,by simp,⟨λk hk=>?_,λk hk E=>by simp⟩,λk E U t K=>?_⟩ (by simp;omega)
 ·obtain ⟨y,M⟩:=x;obtain ⟨rfl,N,p,F⟩:=G;dsimp only at N p F ⊢;have aa:i<q.L.length:=by simpa using o
  have u:=hq.used _ (bn aa);have lo:=h.lo _ (bn aa);have e:(q.L.map dG)[i]=dG q.L[i]:=GB ..;have st:∀k t,aW (q.L.take (i+1)) k t=yr (aW (q.L.take i) k t) (mn q.L[i] k t):=λk t=>by rw[vU aa,uT]
  rw[if_pos (cD o),bN o,e,aE];refine (Jv (by omega) p (by omega) (a:=q.bz) (b:=(dG q.L[i]).me) (l:=(dG q.L[i]).ah) (need:=(dG q.L[i]).az) (by rw[N];exact u.shares) u.Hm u.need (Aa _) (show q.bz<q.L[i].To by omega) u.hi (λk hk t v h1 U hv c=>?_)).bind λr ab=>?_
  ·have O:k<q.S.aq.length:=by omega
   have ev:=hv.t_ (p.each k hk).1 (F k hk O t h1);have cp:=h.caps (i+1) k O t c;rw[st,wG] at cp;have ea:mn q.L[i] k t=mulR (dw q.L[i].ah k) q.L[i].az:=by unfold mn;rw[if_pos ⟨by omega,U⟩]
   rw[ea] at cp;rw[ev,Gg];show cmp c (mulR (dw q.L[i].ah k) q.L[i].az)<=_;omega
  ·obtain ⟨r1,r2,r3⟩:=ab;rw[if_neg (by simp[r1]),bJ (show i<1000000 by omega)];refine Z _ ⟨rfl,by dsimp only;omega,⟨λk hk=>?_,λk hk E=>?_⟩,λk E U t K=>?_⟩
   ·have T:=r3 k (by dsimp only at hk;omega) hk;exact ⟨T.ok,by have:=T.len;have:=(p.each k (by dsimp only at hk;omega)).2;dsimp only at *;omega⟩
   ·have T:=r3 k (by dsimp only at hk;omega) hk;have n0:=(p.each k (by dsimp only at hk;omega)).1.ne;dsimp only;rw[T.first n0 E,p.first k (by dsimp only at hk;omega) n0]
   ·have T:=r3 k (by dsimp only at E;omega) E;have:=T.val t _ (F k (by omega) U t K);dsimp only;rw[st];by_cases g:t<q.L[i].To
    ·have ea:mn q.L[i] k t=mulR (dw q.L[i].ah k) q.L[i].az:=by unfold mn;rw[if_pos ⟨by omega,g⟩]
     rw[if_pos ⟨K,g⟩] at this;rw[ea,<-PK];exact this
    ·have ea:mn q.L[i] k t=bL:=by unfold mn;rw[if_neg λW=>g W.2]
     rw[if_neg (show ¬(q.bz<=t/\t<(dG q.L[i]).me) from λW=>g W.2)] at this;rw[ea,Ey];exact this
 ·obtain ⟨y,M⟩:=x;obtain ⟨rfl,N,p,F⟩:=G;dsimp only at N p F ⊢;rw[if_neg (by simp)];rw[ql,uo] at F;rw[ql] at p;refine jA q.ay.length (λi x=>x.1=(i:Int)/\x.2.length=q.S.aq.length/\zJ x.2 q.bz (1+2 * (q.L.length+i))/\∀(k:Nat)(E:k<x.2.length)(t:Int),q.bz<=t->uN x.2[k] t (bP { q with ay:=q.ay.take i } k t)) (λi x f o G Z=>?_) (λx f G=>?_) ⟨rfl,N,by simpa using p,λk E t K=>?_⟩ (by omega)
  ·obtain ⟨y,M⟩:=x;obtain ⟨rfl,N,p,F⟩:=G;dsimp only at N p F ⊢;have bk:=hq.dy.each i o;have lv:=h.live _ (bn o);have nd:=bk.one.node;obtain ⟨n,en⟩:∃n:Nat,q.ay[i].Node=(n:Int):=⟨q.ay[i].Node.toNat,by omega⟩;have X:n<M.length:=by omega
   have ad:n<q.S.aq.length:=by omega
   obtain ⟨sk,lk⟩:=p.each n X;have f0:=p.first n X sk.ne;rw[if_pos (cD o),il,bN o,aE,if_neg (by simp;omega),en,bN X,aE,bN ad,aE];have nv:=GQ hq.spec ad;have an:mV q.S.aq (n:Int)=q.S.aq[n]:=zZ ad;have Y:∀t,q.bz<=t->q.ay[i].bH<=t->t<q.ay[i].To->bP { q with ay:=q.ay.take i } n t=q.S.aq[n]:=λt h1 U h3=>by
    unfold bP;rw[if_neg]
    ·have:=h.DF _ (bn o) t U h1;rw[en] at this;show jF (mV q.S.aq n) (aW q.L n t)=_;rw[this,an];exact eH λc=>by rw[Gg,Nl];omega
    ·rintro ⟨b,Q,m1,m2,m3⟩;obtain ⟨j,hj,rfl⟩:=Pg.1 Q;rw[km] at hj;simp only[He] at m1 m2 m3;refine (bk.up j (by omega) (by omega)).2 ⟨by rw[m1,en],by omega,bk.one.span,by omega,by omega⟩
   have a1:=bk.one.lo;have a2:=bk.one.hi;have sp:=bk.one.span;have mx:∀P:Int->Prop,P (if q.bz > q.ay[i].bH then q.bz else q.ay[i].bH)=P (max q.bz q.ay[i].bH):=λP=>by congr 1;split <;> omega
   rw[show (if q.bz > q.ay[i].bH then q.bz else q.ay[i].bH)=max q.bz q.ay[i].bH by split <;> omega]
   refine (uJ (by omega) sk nv (by omega) (show max q.bz q.ay[i].bH<q.ay[i].To by omega) (by omega) λt v h1 U hv c=>?_).bind λr ab=>?_
   ·have ev:=hv.t_ sk (F n X t (by omega));rw[ev,Y t (by omega) (by omega) U];exact Aa _
   ·obtain ⟨r1,T⟩:=ab;rw[if_neg (by simp[r1]),aE,bJ (show i<1000000 by omega),Xd];refine Z _ ⟨rfl,by simp[N],⟨λk hk=>?_,λk hk E=>?_⟩,λk E t K=>?_⟩
    ·by_cases g:n=k
     ·subst g;have e:(M.set n r.1)[n]'(by simpa using X)=r.1:=yBG _;show dh (M.set n r.1)[n]/\(M.set n r.1)[n].length<=_;rw[e];exact ⟨T.ok,by have:=T.len;omega⟩
     ·have d:k<M.length:=by simpa using hk
      have e:(M.set n r.1)[k]'(by simpa using d)=M[k]:=yBK g _;show dh (M.set n r.1)[k]/\(M.set n r.1)[k].length<=_;rw[e];have:=p.each k d;exact ⟨this.1,by have:=this.2;omega⟩
    ·by_cases g:n=k
     ·subst g;have e:(M.set n r.1)[n]'(by simpa using X)=r.1:=yBG _;simp only[e];rw[T.first sk.ne T.ok.ne,f0]
     ·have d:k<M.length:=by simpa using hk
      have e:(M.set n r.1)[k]'(by simpa using d)=M[k]:=yBK g _;simp only[e];exact p.first k d (p.each k d).1.ne
    ·have d:k<M.length:=by simpa using E
     have A:dg (q.ay.take (i+1)) k t↔dg (q.ay.take i) k t∨(q.ay[i].Node=(k:Int)/\q.ay[i].bH<=t/\t<q.ay[i].To):=by
      unfold dg;rw[vU o];constructor
      ·rintro ⟨b,Q,m⟩;rcases mw.1 Q with g | g
       ·exact .inl ⟨b,g,m⟩
       ·rw[nL.1 g] at m;exact .inr m
      ·rintro (⟨b,g,m⟩ | m)
       ·exact ⟨b,Ri _ g,m⟩
       ·exact ⟨_,Wy _ (nL.2 rfl),m⟩
     by_cases g:n=k
     ·subst g;have e:(M.set n r.1)[n]'(by simpa using X)=r.1:=yBG _;simp only[e];have Rc:=F n X t K;have new:=T.val t _ Rc;by_cases W:q.ay[i].bH<=t/\t<q.ay[i].To
      ·rw[if_pos ⟨by omega,W.2⟩,Y t K W.1 W.2] at new;have:bP { q with ay:=q.ay.take (i+1) } n t=bL:=by
        unfold bP;rw[if_pos];exact A.2 (.inr ⟨en,W⟩)
       rw[this];have z:jF q.S.aq[n] q.S.aq[n]=bL:=eH λc=>by rw[Gg,Nl];omega
       rw[z] at new;exact new
      ·rw[if_neg λR=>W ⟨by omega,R.2⟩] at new;have:bP { q with ay:=q.ay.take (i+1) } n t=bP { q with ay:=q.ay.take i } n t:=by
        unfold bP;by_cases R:dg (q.ay.take i) n t
        ·rw[if_pos (show dg (q.ay.take (i+1)) n t from A.2 (.inl R)),if_pos (show dg (q.ay.take i) n t from R)]
        ·rw[if_neg (show ¬dg (q.ay.take (i+1)) n t from λg4=>(A.1 g4).elim R λg5=>W g5.2),if_neg (show ¬dg (q.ay.take i) n t from R)]
       rw[this];exact new
     ·have e:(M.set n r.1)[k]'(by simpa using d)=M[k]:=yBK g _;simp only[e];have:bP { q with ay:=q.ay.take (i+1) } k t=bP { q with ay:=q.ay.take i } k t:=by
       unfold bP;by_cases R:dg (q.ay.take i) k t
       ·rw[if_pos (show dg (q.ay.take (i+1)) k t from A.2 (.inl R)),if_pos (show dg (q.ay.take i) k t from R)]
       ·rw[if_neg (show ¬dg (q.ay.take (i+1)) k t from λg4=>(A.1 g4).elim R λg5=>by rw[en] at g5;omega),if_neg (show ¬dg (q.ay.take i) k t from R)]
      rw[this];exact F k d t K
  ·obtain ⟨y,M⟩:=x;obtain ⟨rfl,N,p,F⟩:=G;dsimp only at N p F ⊢;rw[if_neg (by simp),aV];rw[uo] at F;exact ⟨M,rfl,N,p,F⟩
  ·have e:bP { q with ay:=q.ay.take 0 } k t=jF (mV q.S.aq k) (aW q.L k t):=by
    unfold bP;rw[if_neg];rintro ⟨b,Q,_⟩;simp at Q
   have O:k<q.S.aq.length:=by dsimp only at E;omega
   rw[e,zZ O];exact F k E O t K
 ·have d:k<q.S.aq.length:=by simpa using hk
  have e:((q.S.aq).map λr=>[({ At:=q.bz,bQ:=r }:bF)])[k]'(by simpa using d)=[{ At:=q.bz,bQ:=q.S.aq[k] }]:=GB ..;simp only[e];exact ⟨Kf af (GQ hq.spec d),by simp⟩
 ·have e:((q.S.aq).map λr=>[({ At:=q.bz,bQ:=r }:bF)])[k]'(by simpa using U)=[{ At:=q.bz,bQ:=q.S.aq[k] }]:=GB ..;simp only[e];have z:jF q.S.aq[k] (aW (q.L.take 0) k t)=q.S.aq[k]:=eH λc=>by rw[Gg];simp[aW,Nl]
  rw[z];exact ak _ t K
end Go.Plain
end
section
namespace Go.Plain
open Go.Abs
def zeroJ:a_:={ Id:=0,gI:=0,Queue:=0,aJ:=0,az:={ br:=0,Mem:=0,bx:=0,bD:=0 },bm:=0,aP:=[],State:=0,Ok:=false,jg:=false,bO:=0,fT:=0,Start:=0,End:=0,Array:=0 }
theorem VK{l:List a_}(n:l.length<=300)(hs:cH l)(id:Int):bY (Yq 5000 l id) λr=>(r.2=true↔∃j∈l,j.Id=id)/\(r.2=true->At l id r.1):=by
 unfold Yq;rw[nJ];refine half n hs id (λj=>some (decide (j.Id<id))) (λj hj=>rfl) (λi=>some i) (λi p g o=>?_) _ (λf x=>?_)
 ·rw[aV,aZ];refine ⟨λh=>?_,λh=>?_⟩
  ·simp only[aQ] at h;have b:i<l.length:=by omega
   rw[bN b,aE,aV];simp only[lO];refine ⟨⟨λe=>⟨_,bn b,e⟩,λ⟨j,d,e⟩=>?_⟩,λe=>⟨by omega,by simpa using b,by simpa using e⟩⟩;obtain ⟨k,hk,rfl⟩:=jj d;rcases Qc k i with q | q | q
   ·have:=g k hk q;omega
   ·subst q;exact e
   ·have:=hs.lt q hk;have:=o i b (by omega);omega
  ·simp only[aQ] at h;simp only[aV,bA,zj,false_implies,Iq];rintro ⟨j,d,e⟩;obtain ⟨k,hk,rfl⟩:=jj d;have:=g k hk (by omega);omega
 ·split
  ·cases aB l (IntKind.i64.wrap (Int.fdiv (IntKind.u64.wrap (IntKind.i64.wrap (x.1+x.2))) (2 ^ 1))) with
   |none=>rfl
   |some a=>
    simp only[Option.bind_some,eS,Vd,aQ];by_cases m:a.Id<id
    ·rw[if_pos m,if_pos (by omega)]
    ·rw[if_neg m,if_neg (by omega)]
  ·rfl
section
variable{l:List a_}
theorem ON(d:l.length<=300)(hs:cH l){k:Nat}(hk:k<l.length):Yq 5000 l l[k].Id=some ((k:Int),true):=by obtain ⟨⟨r,b⟩,e,f,g⟩:=VK d hs l[k].Id;have h:b=true:=f.2 ⟨_,bn hk,rfl⟩;subst h;have a:At l l[k].Id r:=g rfl;have:=hs.inj a.hi hk a.is;have:=a.lo;rw[e,show r=(k:Int) by omega]
theorem HD{j:a_}(h:JM j):Wh 5000 j=some true:=by obtain ⟨r,e,q⟩:=yk j;rw[e,q.2 h]
end
section
variable{l:List a_}
def WaitS(x:Int):Prop:=x=1∨x=2
instance (x:Int):Decidable (WaitS x):=by unfold WaitS;infer_instance
end
structure ZK (st:cM):Prop where
 cC:st.aw.length<=300
 after:∀j∈st.aw,j.aP.length<=10
 cu:st.ai.length<=300
 asc:Mu st.ai
 ids:∀a∈st.ai,0<=a.bC/\a.bC<=1048576
 sh:∀a∈st.ai,a.ah.length<=300
 dy:st.ay.length<=20
 use:st.uU.length<=20
 stamps:st.aS.am.length<=20
theorem Va{s:bq}{st:cM}(hw:lF s st)(q:Km s st):ZK st:=
 ⟨hw.cC,hw.after,hw.cu,Ms q,DO q,hw.sh,hw.dy,hw.use,hw.stamps⟩
theorem VL{st:cM}(h:ZK st) :
  Zf 5000 st.aS.am st.aw (st.ai.map λa=>(a.bC,a)) st.bz st.Next st.kf st.ay st.uU st.aS.aq=some st:=by
 have b:=h.cC;have d:=h.dy;have e:=h.use;have hs:=h.stamps;unfold Zf;rw[JU (by omega) h.after,aE,show za3 5000 (st.ai.map λa=>(a.bC,a))=some st.ai from BP h.cu h.asc h.ids h.sh,aE,yL (by omega),aE,pA (by omega),aE,show zbK 5000 st.aS.am=some st.aS.am from Gt (by omega),aE]
end Go.Plain
end
section
namespace Go.Plain
open Go.Abs
section
variable{l:List a_}
theorem get_some(a:l.length<=300)(hs:cH l){k:Nat}(hk:k<l.length)(b:l[k].aP.length<=1000):zcr 5000 l l[k].Id=some (l[k],true):=by unfold zcr;rw[ON a hs hk,aE];simp only[Fj,bA,bT];rw[bN hk,aE,Gx (by omega),aE]
theorem SA(a:l.length<=300)(hs:cH l){k:Nat}(hk:k<l.length)(b:l[k].aP.length<=1000):zcy 5000 l l[k].Id=some (l[k],true):=by unfold zcy;rw[get_some a hs hk b,aE]
end
end Go.Plain
end
section
namespace Go.Plain
open Go.Abs
theorem UP{l:List a_}(d:l.length<=300)(hs:cH l){i:Nat}(b:i<l.length):Wd 5000 l l[i].Id=some (i:Int):=by obtain ⟨r,e,f,g,_⟩:=wj d l[i].Id;have h:0<=r:=f.2 ⟨_,bn b,rfl⟩;have a:=g h;have:=hs.inj a.hi b a.is;rw[e];congr 1;omega
def HF(st:cM)(id:Int):a_:=(st.aw.find? λj=>j.Id == id).getD zeroJ
theorem Ue{st:cM}(hs:cH st.aw){i:Nat}(a:i<st.aw.length):HF st st.aw[i].Id=st.aw[i]:=by
 unfold HF;obtain ⟨j,e⟩:∃j,st.aw.find? (λj=>j.Id == st.aw[i].Id)=some j:=by
  cases h:st.aw.find? (λj=>j.Id == st.aw[i].Id) with
  |some j=>exact ⟨j,rfl⟩
  |none=>have:=List.find?_eq_none.1 h _ (bn a);simp at this
 rw[e,OE];have b:=List.find?_some e;simp only[lO] at b;obtain ⟨k,hk,rfl⟩:=jj (List.mem_of_find?_eq_some e);have:=hs.inj hk a b;subst this;rfl
def jt(st:cM)(a:cN):Int:=(HF st a.bC).Start+(HF st a.bC).bm
def fV(st:cM)(a:cN):Ci:={ bH:=st.bz,To:=jt st a,az:=a.az,ah:=a.ah }
def dm(s:bq)(st:cM):kj:={ S:=s,bz:=st.bz,L:=st.ai.map (fV st),ay:=st.ay }
section
variable{s:bq}{st:cM}(hw:lF s st)(q:Km s st)
include hw q
theorem ou{a:cN}(d:a∈st.ai):∃i,∃h:i<st.aw.length,st.aw[i].Id=a.bC/\vf s st st.aw[i] a/\pX st.aw[i]=true/\HF st a.bC=st.aw[i]:=by obtain ⟨j,hj,P⟩:=dO.mem q.cu a d;obtain ⟨e,f⟩:=Hk.1 hj;obtain ⟨i,b,rfl⟩:=jj e;exact ⟨i,b,P.GZ.symm,P,f,by rw[P.GZ];exact Ue q.cC.cA b⟩
theorem wC{a:cN}(b:a∈st.ai):st.bz<jt st a/\jt st a<=st.bz+65536:=by obtain ⟨i,d,_,P,_,e⟩:=ou hw q b;have j:=q.cC.each _ (bn d);have f:=P.now;have g:=j.start;have h:=j.ok.wall;unfold jt;rw[e];omega
omit hw q in
theorem JT{H:List a_}{A:List cN}{F:List aA}(h:dO s st H A F):A.length=H.length:=by
 induction H generalizing A F with
 |nil=>rw[show A=[] from h];rfl
 |cons j H ih=>obtain ⟨b,d,rfl,_,_,a⟩:=h;simp[ih a]
theorem Ca:st.ai.length<=st.aw.length:=by rw[JT q.cu];exact List.length_filter_le _ _
omit hw q in
theorem yE(L:List Ci)(k t:Int)(c:Nat):cmp c (aW L k t)=(L.map λu=>cmp c (mn u k t)).sum:=by
 have:∀(L:List Ci)(r:aA),cmp c (L.foldl (λr u=>yr r (mn u k t)) r)=cmp c r+(L.map λu=>cmp c (mn u k t)).sum:=by
  intro L;induction L with
  |nil=>intro r;simp
  |cons u L ih=>intro r;rw[xAd,ih,wG,iH,xAh];omega
 rw[aW,this,Nl];omega
omit hw q in
theorem Xx{H:List a_}{A:List cN}{F:List aA}(h:dO s st H A F)(e:∀r∈F,aK r)(a:∀j∈H,aK j.az)(k:Nat)(hk:k<F.length)(t:Int)(c:Nat):((A.map (fV st)).map λu=>cmp c (mn u k t)).sum<=cmp c F[k]:=by
 induction H generalizing A F with
 |nil=>rw[show A=[] from h];have:=zW.1 (e _ (bn hk)) c;simp;omega
 |cons j H ih=>
  obtain ⟨b,p,rfl,P,f,g⟩:=h;have d:k<(qZ F b).length:=by rw[ib];exact hk
  have:=ih g (qX f) (λi m=>a i (h_ _ m)) d;rw[sW d] at this;unfold wX at this;rw[Gg] at this;rw[iH,iH,xAh];have le:cmp c (mn (fV st b) k t)<=cmp c (mulR (dw b.ah k) b.az):=by
   unfold mn;split
   ·exact Aa _
   ·rw[Nl];rw[Kq];have o:=oR (l:=b.ah) (λx n=>by have:=(P.Bv.shares.mem x n);omega) k;rw[P.need];exact yBL o (zW.1 (a j (iz ..)) c).1
  omega
theorem Jk:∀u∈(dm s st).L,Cb u s.aq.length:=λu f=>by
 obtain ⟨a,d,rfl⟩:=dY.1 f;obtain ⟨i,g,_,P,_,e⟩:=ou hw q d;have j:=q.cC.each _ (bn g);have b:=wC hw q d;have n:=q.nums.now;refine ⟨P.Bv.shares,hw.sh a d,?_,n.1,?_⟩
 ·show aK a.az;rw[P.need];exact j.ok.need
 ·show jt st a<=_;omega
theorem FA(h30:st.aw.length<=30):yH (dm s st):={
 spec:=q.spec
 now:=q.nums.now
 dy:=q.oH.dy
 used:=Jk hw q
 Hm:=by have:=Ca hw q;show (st.ai.map (fV st)).length<=100;rw[ql];omega }
theorem SC(h30:st.aw.length<=30):Tb (dm s st):={
 ref:=FA hw q h30
 lo:=λu hu=>by obtain ⟨a,m,rfl⟩:=dY.1 hu;exact ⟨rfl,(wC hw q m).1⟩
 caps:=λi k hk t c=>by
  have n:=Xx q.cu q.spec.nodes.ok (λj hj=>(q.cC.each j (Hk.1 hj).1).ok.need) k hk t c;rw[yE];show ((((st.ai.map (fV st)).take i)).map λu=>cmp c (mn u k t)).sum<=cmp c s.aq[k];have o:((st.ai.map (fV st)).map λu=>cmp c (mn u k t)).sum=(((st.ai.map (fV st)).take i).map λu=>cmp c (mn u k t)).sum+(((st.ai.map (fV st)).drop i).map λu=>cmp c (mn u k t)).sum:=by rw[<-yBS,<-Ic,yBu]
  have K:0<=(((st.ai.map (fV st)).drop i).map λu=>cmp c (mn u k t)).sum:=by
   have:∀M:List Ci,(∀u∈M,Cb u s.aq.length)->0<=(M.map λu=>cmp c (mn u k t)).sum:=by
    intro M;induction M with
    |nil=>intro _;simp
    |cons u M ih=>intro d;have:=ih λv r=>d v (h_ _ r);have:=LZ (d u (iz ..)) k t c;rw[iH,xAh];omega
   exact this _ λu hu=>Jk hw q u (Zn hu)
  omega
 live:=λb p=>(q.oH.live b p).2
 DF:=λb p t n o=>eH λc=>by
  rw[yE,Nl];show ((st.ai.map (fV st)).map λu=>cmp c (mn u b.Node t)).sum=0;have:∀x∈(st.ai.map (fV st)).map λu=>cmp c (mn u b.Node t),x=0:=λx A=>by
   obtain ⟨u,hu,rfl⟩:=dY.1 A;obtain ⟨a,m,rfl⟩:=dY.1 hu;obtain ⟨i,hi,E,P,_,e⟩:=ou hw q m;by_cases g:∃y∈a.ah,y.Node=b.Node
   ·obtain ⟨y,f,F⟩:=g;have:=q.oH.DF a m _ (bn hi) E y f b p F.symm;unfold mn;rw[if_neg,Nl];show ¬(st.bz<=t/\t<jt st a);unfold jt;rw[e];omega
   ·have z:dw a.ah b.Node=0:=by
     have:∀M:List dq,(∀y∈M,y.Node≠b.Node)->dw M b.Node=0:=by
      intro M;induction M with
      |nil=>intro _;simp[dw]
      |cons y M ih=>intro d;have n:=ih λz G=>d z (h_ _ G);have o:=d y (iz ..);simp only[dw,iH,List.sum_cons] at n ⊢;rw[if_neg o,n];rfl
     exact this _ λy f e=>g ⟨y,f,e⟩
    unfold mn;split
    ·show cmp c (mulR (dw a.ah b.Node) a.az)=0;rw[z,Kq];omega
    ·exact Nl c
  have h:∀M:List Int,(∀x∈M,x=0)->M.sum=0:=by
   intro M;induction M with
   |nil=>intro _;rfl
   |cons x M ih=>intro d;rw[xAh,d x (iz ..),ih λy f=>d y (h_ _ f)];rfl
  exact h _ this }
theorem Dd:zb0 5000 s st=some (dm s st):=by
 have d:=hw.cC;have n:=hw.cu;unfold zb0;refine bY.eq (jA st.ai.length (λi x=>x=((i:Int),s.aq,s.aF,s.am,s.aU,s.av.uD,s.av.ee,s.av.lS,s.av.cB,s.cE,s.Mode,s.aw,s.qy,s.aL,s.bR,s.fh,s.In,s.Out,s.cG,st.bz,(st.ai.take i).map (fV st),st.ay)) (λi x f a b g=>?_) (λx f b=>?_) rfl (by omega))
 ·subst b;have h:=bn a;obtain ⟨k,hk,m,P,_,e⟩:=ou hw q h;have j:=q.cC.each _ (bn hk);have o:=j.ok.wall;have p:=j.ok.start;dsimp only;rw[if_pos (cD a),bN a,aE,<-m,UP d q.cC.cA hk,aE,bN hk,aE,wr (x:=_+_) (by omega) (by omega)];unfold zcS;dsimp only;rw[Gt (by simp;omega),aE,Bw (by simp;omega),aE,aE,bJ (show i<1000000 by omega)];refine g _ ?_;rw[vU a,Ic];have:fV st st.ai[i]={ bH:=st.bz,To:=st.aw[k].Start+st.aw[k].bm,az:=st.ai[i].az,ah:=st.ai[i].ah }:=by
   unfold fV jt;rw[e]
  rw[iH,TI,this]
 ·subst b;dsimp only;rw[if_neg (by simp),aV,uo];rfl
theorem QL{i:Nat}(a:i<st.aw.length)(h:pX st.aw[i]=true):s_ 5000 st.aw[i]=some (st.aw[i].Start+st.aw[i].bm):=by have j:=q.cC.each _ (bn a);have b:=j.ok.wall;have d:=j.ok.start;unfold s_ kZ;rw[il,HD j.ok,aE,if_neg (by simp),aE];dsimp only;unfold pX at h;rw[h,if_neg (by simp),wr (by omega) (by omega)]
theorem CY(h30:st.aw.length<=30):∃nodes,zdb 5000 st.aS.am st.aw (st.ai.map λa=>(a.bC,a)) s.aq s.aF s.am s.aU s.av.uD s.av.ee s.av.lS s.av.cB s.cE s.Mode s.aw s.qy s.aL s.bR s.fh s.In s.Out s.cG st.bz st.Next st.kf st.ay st.uU st.aS.aq=some (.inr (nodes,st.bz,s.aF))/\PR nodes (dm s st) (1+2 * (st.ai.length+st.ay.length)):=by
 have g:=hw.cC;have u:=hw.cu;obtain ⟨r,e,nodes,rfl,hp⟩:=Iy (SC hw q h30);have h:(dm s st).L.length=st.ai.length:=ql ..;rw[h] at hp;refine ⟨nodes,?_,hp⟩;unfold zdb;rw[VL (Va hw q),aE];have z:FU ({ az:=({ br:=0,Mem:=0,bx:=0,bD:=0 }:aA),ah:=[],me:=0 }:iC) 0 (st.ai.length:Int)=some []:=by unfold FU;rw[if_pos (by omega)];rfl
 rw[z,aE];refine bY.eq (jA st.ai.length (λi x=>x=((i:Int),(st.ai.take i).map λa=>dG (fV st a))) (λi x f b d m=>?_) (λx f d=>?_) rfl (by omega))
 ·subst d;have n:=bn b;obtain ⟨k,hk,o,P,hj,p⟩:=ou hw q n;dsimp only;rw[if_pos (cD b),bN b,aE,<-o,SA g q.cC.cA hk (by have:=hw.after _ (bn hk);omega),aE,QL hw q hk hj,aE,Bw (by simp;omega),aE,bJ (show i<1000000 by omega)];refine m _ ?_;rw[vU b,Ic];have:dG (fV st st.ai[i])={ az:=st.ai[i].az,ah:=st.ai[i].ah,me:=st.aw[k].Start+st.aw[k].bm }:=by
   unfold dG fV jt;rw[p]
  rw[iH,TI,this]
 ·subst d;dsimp only;rw[if_neg (by simp),vF hw.spec,aE,uo];have:(st.ai.map λa=>dG (fV st a))=(dm s st).L.map dG:=by show _=(st.ai.map (fV st)).map dG;rw[Q_];rfl
  rw[this];have t:zee 5000 ((dm s st).L.map dG) s st.bz st.ay=some (.inr (nodes,st.bz,s.aF)):=e;rw[t,aE];exact aV.2 rfl
end
end Go.Plain
end
section
set_option maxRecDepth 100000
namespace Go.Plain
open Go.Abs
theorem HP:eR 5000=some true:=by kernel_rfl
theorem few30P(s:bq)(st:cM):bY (zcp 5000 s st) λr=>r=true->st.aw.length<=30:=by
 simp only[zcp,il];refine (few07 s).bind λr b=>?_;simp only[if_true,aV,aZ];refine ⟨by simp,λh=>?_⟩;refine (few17 st.aw).bind λe a=>?_;simp only[aZ,aV];refine ⟨by simp,λh=>?_⟩;simp only[dZ,aQ,not_or,Int.not_lt,eS,lN] at h;obtain ⟨⟨⟨⟨h,g⟩,k⟩,m⟩,n⟩:=h;have d:=a h;refine um st.ai (λ_ q=>True) (λi f h _ b=>?_) (λf hq=>?_) (by omega)
 ·simp only[cD h,if_true,bN h,Option.bind_some,bJ (show i<1000000 by omega),aZ,aV,aQ];exact ⟨by simp,λh=>b trivial⟩
 ·simp only[dX,bA,bT,aV];exact λ_=>d.1
def qY(s:bq)(j:a_):CD:={ Part:=((s.am[j.Queue.toNat]?).getD default).Part,aJ:=j.aJ,az:=j.az,bm:=j.bm }
theorem BQ{s:bq}{j:a_}(hq:0<=j.Queue/\j.Queue<s.am.length):∃h:j.Queue.toNat<s.am.length,aB s.am j.Queue=some s.am[j.Queue.toNat]/\qY s j={ Part:=s.am[j.Queue.toNat].Part,aJ:=j.aJ,az:=j.az,bm:=j.bm }:=by obtain ⟨h,e⟩:=ff hq.1 hq.2;refine ⟨h,e,?_⟩;unfold qY;rw[cT h,OE]
theorem yC{s:bq}{st:cM}{q:kj}(k:bS s)(eq:q.S=s){j:a_}(h:zf s st j):oY q (qY s j):=by obtain ⟨a,_,e⟩:=BQ ⟨h.ok.queue.1,h.queue⟩;have b:=k.fQ.ok _ (bn a);have m:=h.ok.many;rw[e];exact ⟨by rw[eq];exact b.part,by dsimp only;omega,h.ok.need,h.ok.wu,h.ok.wall⟩
def named(j:a_)(r:zn×Bool):zn×Bool:=if r.2=true then ({ bC:=j.Id,At:=r.1.At,ah:=r.1.ah },true) else ({ bC:=0,At:=0,ah:=[] },false)
section
variable{nodes:List (List bF)}{q:kj}{L:Nat}(hL:L<=200)(hq:yH q)(hp:PR nodes q L){st:cM}{j:a_}(hj:zf q.S st j)
include hL hq hp hj
theorem IX:∃r,(za8 5000 nodes j q.S.aq q.S.aF q.S.am q.S.aU q.S.av.uD q.S.av.ee q.S.av.lS q.S.av.cB q.S.cE q.S.Mode q.S.aw q.S.qy q.S.aL q.S.bR q.S.fh q.S.In q.S.Out q.S.cG q.bz q.S.aF=some (named j r))/\zbh 5000 q.S q j=some (named j r)/\∃T,wk q T/\oJ q (qY q.S j) T r:=by
 have hw:=yC hq.spec rfl hj;obtain ⟨r,a,b,T,g,d⟩:=U_ hL hq hp hw;obtain ⟨n,e,i⟩:=BQ ⟨hj.ok.queue.1,hj.queue⟩;have k:=hj.queue;have m:=hj.ok.queue.1;rw[i] at a b;refine ⟨r,?_,?_,T,g,d⟩
 ·unfold za8;rw[vF (iQ hq.spec),aE,if_neg (by simp;omega),e,aE];dsimp only at a;rw[a,aE];unfold named;by_cases h:r.2=true
  ·rw[if_pos h,if_neg (by simp[h])]
  ·rw[if_neg h,if_pos (by simpa using h)]
 ·unfold zbh gH;rw[e,aE,aE,b,aE,il];unfold named;by_cases h:r.2=true
  ·rw[if_pos h,if_pos h,h]
  ·have f:r.2=false:=by simpa using h
   rw[if_neg h,if_neg h,(d.no f).2,f]
end
theorem QE{j:a_}{r:zn×Bool}(h:(named j r).1.ah.length<=300):zcQ 5000 (named j r).1 (named j r).1=some true:=by unfold zcQ;rw[if_pos (by simp),yM _ h,aE]
theorem Xy{F:List aA}{need:aA}(l:List Int)(x:Int×List dq):(l.foldl (Mr F need) x).2.length<=x.2.length+l.length:=by
 induction l generalizing x with
 |nil=>simp
 |cons n l ih=>
  have:=ih (Mr F need x n);have e:(Mr F need x n).2.length<=x.2.length+1:=by unfold Mr;split <;> simp
  rw[xAd,xAl];omega
section
variable{nodes:List (List bF)}{q:kj}{L:Nat}(hL:L<=200)(hq:yH q)(hp:PR nodes q L){w:CD}(hw:oY q w)
include hL hq hp hw
theorem OW{t:Int}(a:q.bz<=t)(b:(bW q w t).2=true):(bW q w t).1.length<=40:=by
 have d:=VG hL hq hp hw b;obtain ⟨F,_,_,_,e⟩:=wB (by omega) hq hp hw a d;have w1:bW q w t=dj F (pG q w) w.aJ w.az:=by unfold bW;rw[e];rfl
 have pl:=(iQ hq.spec).part _ (iX hw).2;rw[w1];unfold dj;split
 ·simp
 ·have:=Xy (F:=F) (need:=w.az) (pG q w) (w.aJ,[]);simp only[List.length_nil] at this;unfold wi;dsimp only;omega
end
theorem US{nodes:List (List bF)}{q:kj}{L:Nat}(hL:L<=200)(hq:yH q)(hp:PR nodes q L)(t:Int):zaQ 5000 nodes q t q.bz=some true:=by
 have nn:=hq.spec.nodes.hi;have v:=hp.len;have A:=hq.now;unfold zaQ zc2;by_cases h:t<q.bz
 ·rw[if_pos (by simpa using h),aE,if_pos (by simpa using h)];rfl
 ·rw[if_neg (by simpa using h),Mc _ (by omega),aE];have n:bY (bo (λE (b:Int×List aA)=>
   if (decide (b.1<(nodes.length:Int)))=true then
    (aB nodes b.1).bind λG=>
    (sX 5000 G t).bind λK=>
    (aB b.2 b.1).bind λO=>
    E ((IntKind.i64.wrap (b.1+1)),(b.2.set b.1.toNat K))
   else
    some b.2) 5000 (0,List.replicate nodes.length ({ br:=0,Mem:=0,bx:=0,bD:=0 }:aA))) λF=>F.length=nodes.length/\∀(k:Nat)(h:k<F.length),F[k]=bP q k t:=by
   refine jA nodes.length (λi x=>x.1=(i:Int)/\x.2.length=nodes.length/\∀(k:Nat)(h:k<x.2.length),k<i->x.2[k]=bP q k t) (λi x f a o p=>?_) (λx f o=>?_) ⟨rfl,by simp,λk _ h=>by omega⟩ (by omega)
   ·obtain ⟨y,F⟩:=x;obtain ⟨rfl,m,d⟩:=o;dsimp only at m d ⊢;obtain ⟨z,lk⟩:=hp.iM.each i a;have f0:=hp.iM.first i a z.ne;rw[if_pos (cD a),bN a,aE];refine (TF (by omega) z (by omega)).bind λr u=>?_;rw[bN (show i<F.length by omega),aE,bJ (show i<1000000 by omega),Xd];refine p _ ⟨rfl,by simp[m],λk hk M=>?_⟩;dsimp only;by_cases g:i=k
    ·subst g;rw[yBG];exact (hp.iff a (by omega)).1 u
    ·rw[yBK g];exact d k (by simpa using hk) (by omega)
   ·obtain ⟨y,F⟩:=x;obtain ⟨rfl,m,d⟩:=o;dsimp only at m d ⊢;rw[if_neg (by simp),aV];exact ⟨m,λk hk=>d k hk (by omega)⟩
  obtain ⟨F,N,m,d⟩:=n;rw[N,aE,if_neg (by simpa using h),if_neg (by simp;omega)];refine bY.eq (um F (λ_ _=>True) (λi f a _ p=>?_) (λf _=>?_) (by omega))
  ·rw[if_pos (cD a)];refine (ER hq (k:=i) (by omega) (t:=t) (by omega)).bind λr e=>?_;rw[bN a,aE,d i a,e,if_neg,bJ (show i<1000000 by omega)]
   ·exact p trivial
   ·rw[show aA.beq (bP q i t) (bP q i t)=true from eI.2 rfl];simp
  ·rw[if_neg (by simp),aV]
theorem max_of(T:List Int)(h:T≠[]):∃m∈T,∀x∈T,x<=m:=by
 induction T with
 |nil=>exact absurd rfl h
 |cons a T ih=>
  by_cases e:T=[]
  ·subst e;exact ⟨a,by simp,λx b=>by simp at b;omega⟩
  ·obtain ⟨m,f,d⟩:=ih e;by_cases g:a<=m
   ·exact ⟨m,h_ _ f,λx b=>by
     rcases eU.1 b with rfl | b
     ·exact g
     ·exact d x b⟩
   ·exact ⟨a,iz ..,λx b=>by
     rcases eU.1 b with rfl | b
     ·exact Aa _
     ·have:=d x b;omega⟩
theorem PS{s:bq}(hs:oV s)(k:bS s){j:a_}(d:aK j.az)(f:j.az≠bL)(hq:0<=j.Queue/\j.Queue<s.am.length)(hm:1<=j.aJ)(h:fj 5000 s j.Queue j.aJ j.az=some true):j.aJ<=vq s.aq ((s.aF[(qY s j).Part.toNat]?).getD []) j.az:=by obtain ⟨g,e,i⟩:=BQ hq;have b:=k.fQ.ok _ (bn g);obtain ⟨hp,m⟩:=ff b.part.1 b.part.2;have n:=k.parts.ok _ (bn hp);have lp:=hs.part _ (bn hp);unfold fj tt at h;rw[tq hs k,aE,if_neg (by simp;omega),e,aE,aE,if_neg (by have:=b.part;simp;omega),m,aE] at h;have:=yg k d f (jz lp (by decide)) n.2 (λa=>im 5000 a j.az) (λa o=>count o d f);rw[this,aE] at h;simp only[aj,aQ] at h;rw[i,cT hp,OE];exact h
section
variable{s:bq}{st:cM}(hw:lF s st)(q:Km s st)(h30:st.aw.length<=30)
include hw q h30
theorem UZ{nodes:List (List bF)}{L:Nat}(hL:L<=200)(hp:PR nodes (dm s st) L){j:a_}(hj:j∈st.aw)(hs:j.State<5)(hn:st.bz<1099509627776){T:List Int}{r:zn×Bool}(K:wk (dm s st) T)(Y:oJ (dm s st) (qY s j) T r):r.2=true:=by
 have hq:=FA hw q h30;have o:=q.cC.each j hj;have d:=yC (q:=dm s st) q.spec rfl o;cases Z:r.2 with
 |true=>rfl
 |false=>
  exfalso;have none:=(Y.no Z).1;have p:st.bz∈T:=(K.mem _).2 ⟨Aa _,.inl rfl⟩;obtain ⟨m,P,g⟩:=max_of T (λe=>by rw[e] at p;simp at p);have m0:st.bz<=m:=g _ p;have N:∀x,OI (dm s st) x->x<=1099511627776:=by
   rintro x (h | ⟨u,Q,h⟩ | ⟨b,N,h⟩)
   ·rw[h];exact q.nums.now.2
   ·obtain ⟨a,O,rfl⟩:=dY.1 Q;have:=wC hw q O;rcases h with h | h
    ·rw[h];exact q.nums.now.2
    ·rw[h];show jt st a<=_;omega
   ·have f:b∈st.ay:=N;obtain ⟨i,R,rfl⟩:=jj f;have:=(q.oH.dy.each i R).one;have:=this.hi;have:=(q.oH.dy.each i R).one.span;rcases h with h | h <;> rw[h] <;> omega
  have m1:=N m ((K.mem m).1 P).2;have z:∀x,st.bz<=x->OI (dm s st) x->x<=m:=λx G A=>g x ((K.mem x).2 ⟨G,A⟩);have n:∀(k:Nat)(hk:k<s.aq.length) u,m<=u->bP (dm s st) k u=s.aq[k]:=λk hk u Q=>by
   unfold bP;rw[if_neg]
   ·have e:aW (dm s st).L k u=bL:=eH λc=>by
     rw[yE,Nl];have:∀x∈(dm s st).L.map λv=>cmp c (mn v k u),x=0:=λx hx=>by obtain ⟨v,U,rfl⟩:=dY.1 hx;obtain ⟨a,O,rfl⟩:=dY.1 U;have G:=wC hw q O;have A:=z (jt st a) (by omega) (.inr (.inl ⟨_,U,.inr rfl⟩));unfold mn;rw[if_neg,Nl];show ¬(st.bz<=u/\u<jt st a);omega
     have E:∀M:List Int,(∀x∈M,x=0)->M.sum=0:=by
      intro M;induction M with
      |nil=>intro _;rfl
      |cons x M ih=>intro W;rw[xAh,W x (iz ..),ih λy hy=>W y (h_ _ hy)];rfl
     exact E _ this
    rw[e,show mV (dm s st).S.aq (k:Int)=s.aq[k] from zZ hk];exact eH λc=>by rw[Gg,Nl];omega
   ·rintro ⟨b,f,_,_,h3⟩;have:=z b.To (by have:=(q.oH.live b f).2;omega) (.inr (.inr ⟨b,f,.inr rfl⟩));omega
  obtain ⟨F,X,aa,_,e⟩:=wB (by omega) hq hp d m0 m1;have w1:bW (dm s st) (qY s j) m=dj F (pG (dm s st) (qY s j)) (qY s j).aJ (qY s j).az:=by unfold bW;rw[e];rfl
  have wl:=d.wall;have eF:F=s.aq:=List.ext_getElem X.len λk G A=>by
   refine (X.low k G).t_ ⟨λt v t1 t2 ev c=>?_,λc=>⟨m,_,Aa _,by omega,rfl,?_⟩⟩
   ·rw[ev,n k A t t1];exact Aa _
   ·rw[n k A m (Aa _)]
  have ok:(bW (dm s st) (qY s j) m).2=true:=by rw[w1,eF];refine yp.2 ⟨o.ok.many.1,?_⟩;exact PS hw.spec q.spec o.ok.need o.ok.wu ⟨o.ok.queue.1,o.queue⟩ o.ok.many.1 (q.waits j hj hs).fits
  rw[none m P] at ok;cases ok
end
theorem KF(w:zdy)(t:Int):zc7 5000 w t=some true:=by
 unfold zc7;rw[HP,aE,if_neg (by simp)];obtain ⟨x,e,h⟩:=few23 w.S w.St;obtain ⟨y,d,z⟩:=few30P w.S w.St;rw[e] at d;simp only[aj] at d;subst d;rw[e,aE];by_cases b:(!x)=true
 ·rw[if_pos b]
 rw[if_neg b];simp only[eS,lN] at b;have hw:=h b;have h30:=z b;by_cases q:Km w.S w.St
 ·rw[QN hw q,aE];obtain ⟨nodes,A,hp⟩:=CY hw q h30;have er:=Dd hw q;have hq:=FA hw q h30;have P:=Ca hw q;have Q:=q.oH.dy.len;have hL:1+2 * (w.St.ai.length+w.St.ay.length)<=200:=by omega
  have fl:=US hL hq hp;generalize w.S=s at *;generalize w.St=st at *;dsimp only;rw[if_neg (by simp),A,aE];dsimp only;rw[er,aE,il];have f1:zaQ 5000 nodes (dm s st) t st.bz=some true:=fl t;have E:zaQ 5000 nodes (dm s st) st.bz st.bz=some true:=fl st.bz;rw[f1,aE,if_neg (by simp),E,aE];dsimp only;rw[if_neg (by simp)];have R:=hw.cC;refine bY.eq (um st.aw (λ_ _=>True) (λi f k _ F=>?_) (λf _=>?_) (by omega))
  ·have o:=bn k;have p:=q.cC.each _ o;obtain ⟨r,G,K,T,u,v⟩:=IX hL hq hp (st:=st) p;have m:za8 5000 nodes st.aw[i] s.aq s.aF s.am s.aU s.av.uD s.av.ee s.av.lS s.av.cB s.cE s.Mode s.aw s.qy s.aL s.bR s.fh s.In s.Out s.cG st.bz s.aF=some (named st.aw[i] r):=G;have n:zbh 5000 s (dm s st) st.aw[i]=some (named st.aw[i] r):=K;have a:=yC (q:=dm s st) q.spec rfl p;rw[if_pos (cD k),bN k,aE,m,aE,n,aE,il,if_neg (by simp),QE,aE,if_neg (by simp)]
   ·unfold zdx;rw[aE];dsimp only;rw[if_neg,bJ (show i<1000000 by omega)]
    ·exact F trivial
    ·simp only[bp,dZ,lO,aQ,eS,not_and,lN];rintro ⟨h1,h2⟩;have:=UZ hw q h30 hL hp o (by omega) h2 u v;unfold named;rw[if_pos this]
   ·unfold named;by_cases g:r.2=true
    ·rw[if_pos g];obtain ⟨M,N,_,_,O⟩:=v.yes g;dsimp only;have:=OW hL hq hp a ((u.mem _).1 M).1 N;rw[O];exact jz this (by decide)
    ·rw[if_neg g];simp
  ·rw[if_neg (by simp)];unfold za8;rw[vF hw.spec,aE,if_pos (by simp),aE];exact aV.2 rfl
 ·rw[Qb hw q,aE];rfl
end Go.Plain
end
