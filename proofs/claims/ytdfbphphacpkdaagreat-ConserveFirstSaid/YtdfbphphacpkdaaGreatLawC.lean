/- TyL8, TyL9, TySA, TySG, TyLA, TyLD, TyLC, TyR1, TyR2, TyR3, TyR4 -/
import Derived.Test.YtdfbphphacpkdaaGreatLawB
import Derived.Test.YtdfbphphacpkdaaGreatLawA
set_option linter.all false
open Go.IntKind (i64 u64)
section
namespace Go.Plain
open Go.Abs
theorem uW{zs:List Int}{j:Nat}(h:j<zs.length):zs.toArray[j]! = zs[j]:=by simp_all
theorem LC(zs:List Int)(x:Int):x∈Lib.compact zs↔x∈zs:=by
 unfold Lib.compact Lib.compactUpTo;constructor
 ·grind
 ·intro h;obtain ⟨j,hj,rfl⟩:=km h;have:∀j (hj:j<zs.length),zs[j]∈((List.range zs.length).filter (Lib.keeps zs.toArray)).map (zs.toArray[·]!):=by
   intro j;induction j with
   |zero=>intro hj;exact iT.2 ⟨0,QN.2 ⟨yBM.2 hj,by simp[Lib.keeps]⟩,uW hj⟩
   |succ j ih=>
    intro hj;by_cases e:zs[j+1]=zs[j]
    ·simp_all
    ·refine iT.2 ⟨j+1,QN.2 ⟨yBM.2 hj,?_⟩,uW hj⟩;unfold Lib.keeps
     grind
  simp_all
theorem DD{zs:List Int}(h:zs.Pairwise λa b=>a<=b):(Lib.compact zs).Pairwise λa b=>a<=b:=by
 unfold Lib.compact Lib.compactUpTo;rw[List.pairwise_map]
 grind [uW,List.pairwise_iff_getElem]
theorem Xi{R:Type}{a b:Nat}(h:a=b)(k:Option R):BC a b k=k:=by grind [Go.Abs.BC,Nat.beq_refl]
structure YS (nodes:List (List bP)) (part:List Int) (T:List Int):Prop where
 bV:T.Pairwise λa b=>a<=b
 mem:∀x,x∈T↔∃n∈part,∃s∈(nodes[n.toNat]?).getD [],s.At=x
theorem SX{l:List Int}(g:l.length<=1000000){Q:List Int->Prop}(h:∀T,T.Pairwise (λa b=>a<=b)->(∀x,x∈T↔x∈l)->T.length<=l.length->Q T) :
  bL ((zcg 5000 l).bind λe=>BC l.length e.length<|(zbK 5000 e).bind λf=>some f.2) Q:=by
 unfold zcg zbK ME;rw[Abs.Kq];have d:∀m:List Int,m.map (λk=>k)=m:=λm=>List.map_id' m;rw[if_pos g,aD,d,d,Xi (List.length_mergeSort l).symm];unfold Mz;rw[if_pos (by simp_all),aD,aY,d,d];have i:∀a b c:Int,decide (a<=b)=true->decide (b<=c)=true->decide (a<=c)=true:=λa b c o p=>by grind
 have n:∀a b:Int,(decide (a<=b) || decide (b<=a))=true:=λa b=>by grind
 have hs:(l.mergeSort λx y=>decide (x<=y)).Pairwise λa b=>a<=b:=(List.pairwise_mergeSort i n l).imp λ{a b} h=>by simp_all
 refine h _ (DD hs) (λx=>?_) (by grind [Go.Abs.yw,List.length_mergeSort]);rw[LC,(List.mergeSort_perm l _).mem_iff]
theorem Fk{nodes:List (List bP)}{q:iE}{L:Nat}(hL:L<=200)(hq:qK q)(hp:PR nodes q L){w:AI}(hw:jd q w) :
  bL (zbY 5000 nodes w.Part q.S.aG) λT=>YS nodes (cz q w) T/\T.length<=3200:=by
 have nn:=hq.spec.nodes.hi;obtain ⟨v,z⟩:=jI hw;have t:=hq.spec.parts.ok _ z;have pl:(cz q w).length<=16:=by
  rcases vC t.2 with h | h
  ·omega
  simp_all
 have u:=hp.len;unfold zbY;rw[if_neg (by have:=hw.part;simp_all),v,aD];refine ja (cz q w).length (λi x=>x.1=(i:Int)/\x.2.length<=200 * i/\∀y,y∈x.2↔∃n∈(cz q w).take i,∃s∈(nodes[n.toNat]?).getD [],s.At=y) (λi x f g a A=>?_) (λx f a=>?_) ⟨rfl,by simp,λy=>by simp⟩ (by omega)
 ·obtain ⟨y,T⟩:=x;obtain ⟨rfl,m,b⟩:=a;dsimp only at m b ⊢;have hn:=t.2.mem _ (bE g);obtain ⟨k,E⟩:∃k:Nat,(cz q w)[i]=(k:Int):=⟨((cz q w)[i]).toNat,by omega⟩;have hk:k<nodes.length:=by omega
  obtain ⟨K,lk⟩:=hp.cT.each k hk;rw[if_pos (cM g),bW g,aD,E,bW hk,aD];refine ja nodes[k].length (λj x=>x.1=(j:Int)/\x.2.length=T.length+j/\∀y,y∈x.2↔y∈T∨∃s∈nodes[k].take j,s.At=y) (λj x G hj a o=>?_) (λx G a=>?_) ⟨rfl,rfl,λy=>by simp⟩ (by omega)
  ·obtain ⟨y,U⟩:=x;obtain ⟨rfl,p,d⟩:=a;dsimp only at p d ⊢;rw[if_pos (cM hj),bW hj,aD,Ap (by grind),aD,bT (show j<1000000 by omega)];refine o _ ⟨rfl,by grind,λy=>?_⟩;dsimp only;rw[mQ,Bl,d,or_assoc];refine or_congr_right ?_;constructor
   ·rintro (⟨s,e,r⟩ | h)
    ·grind
    ·exact ⟨_,(dZ hj).2 (.inr rfl),h.symm⟩
   ·rintro ⟨s,e,r⟩;rcases (dZ hj).1 e with e | e
    ·grind
    simp_all
  ·obtain ⟨y,U⟩:=x;obtain ⟨rfl,p,d⟩:=a;dsimp only at p d ⊢;rw[if_neg (by simp),bT (show i<1000000 by omega)];rw[yh] at d;refine A _ ⟨rfl,by grind,λy=>?_⟩;dsimp only;rw[d,b,Fc g]
   simp_all
 ·obtain ⟨y,T⟩:=x;obtain ⟨rfl,m,b⟩:=a;dsimp only at m b ⊢;rw[if_neg (by simp)];rw[yh] at b;exact SX (by omega) λU e r M=>⟨⟨e,λx=>(r x).trans (b x)⟩,by omega⟩
def cF(q:iE)(w:AI)(t:Int):List cW×Bool:=(T_ 5000 q w t).getD ([],false)
structure rJ (q:iE) (w:AI) (T:List Int) (r:gX×Bool):Prop where
 yes:r.2=true->r.1.At∈T/\(cF q w r.1.At).2=true/\(∀s∈T,(cF q w s).2=true->r.1.At<=s)/\r.1.bj=0/\r.1.ae=(cF q w r.1.At).1
 no:r.2=false->(∀s∈T,(cF q w s).2=false)/\r.1={ bj:=0,At:=0,ae:=[] }
section
variable{nodes:List (List bP)}{q:iE}{L:Nat}(hL:L<=200)(hq:qK q)(hp:PR nodes q L){w:AI}(hw:jd q w)
include hL hq hp hw
theorem AH{t:Int}(b:q.aX<=t):zaJ 5000 nodes w.Part w.aK w.ay w.aW t q.aX q.S.aG=some (cF q w t)/\T_ 5000 q w t=some (cF q w t):=by
 by_cases d:t<=1099511627776
 ·obtain ⟨F,_,_,e,a⟩:=CO (by omega) hq hp hw b d;have:cF q w t=BU F (cz q w) w.aK w.ay:=by grind [cF]
  simp_all
 ·have a:T_ 5000 q w t=some ([],false):=by
   unfold T_
   simp_all
  have:cF q w t=([],false):=by grind [cF]
  rw[this];refine ⟨?_,a⟩;unfold zaJ
  simp_all
theorem Tm:bL (zaB 5000 q w) λr=>∃T,zZ q T/\rJ q w T r:=by
 unfold zaB;refine (Kx hq).bind λT a=>?_;have m:=a.len;refine xq T (λ_ t=>(cF q w t).2=false) (λi f b d e=>?_) (λf d=>?_) (by omega)
 ·have k:=(a.mem T[i]).1 (bE b);rw[if_pos (cM b),bW b,aD,(AH hL hq hp hw k.1).2,aD,bo,bT (show i<1000000 by omega)];refine ⟨λh=>?_,λh=>e (by simp_all)⟩;rw[aD,aY];refine ⟨T,a,⟨λ_=>⟨bE b,h,λs hs n=>?_,rfl,rfl⟩,λh=>by simp at h⟩⟩;obtain ⟨j,hj,rfl⟩:=km hs;dsimp only;rcases US j i with g | g | g
  ·simp_all
  ·simp_all
  ·have:=yAZ.1 a.bV i j b hj g;omega
 ·rw[if_neg (by simp),aY];exact ⟨T,a,⟨λh=>by simp at h,λ_=>⟨Cy (A:=λt=>(cF q w t).2=false) d,rfl⟩⟩⟩
theorem HM{T:List Int}(b:YS nodes (cz q w) T):q.aX∈T/\∀x∈T,q.aX<=x:=by
 obtain ⟨i,g⟩:=jI hw;have d:=hq.spec.parts.ok _ g;have e:=hp.len;constructor
 ·have f:0<(cz q w).length:=by omega
  have hn:=d.2.mem _ (bE f);have hk:((cz q w)[0]).toNat<nodes.length:=by omega
  obtain ⟨a,lk⟩:=hp.cT.each _ hk;refine (b.mem _).2 ⟨_,bE f,nodes[((cz q w)[0]).toNat][0]'a.ne,?_,hp.cT.first _ hk a.ne⟩
  simp_all
 ·intro x h;obtain ⟨n,hn,s,hs,rfl⟩:=(b.mem x).1 h;have nb:=d.2.mem n hn;have hk:n.toNat<nodes.length:=by omega
  obtain ⟨a,lk⟩:=hp.cT.each _ hk;rw[eH hk,xAd] at hs;obtain ⟨j,hj,rfl⟩:=km hs;have:=hp.cT.first _ hk a.ne;have:=a.le (NA j) hj;omega
theorem Pm:bL (zaQ 5000 nodes w.Part w.aK w.ay w.aW q.aX q.S.aG) fun r=>∃T,YS nodes (cz q w) T∧rJ q w T r:=by
 unfold zaQ
 refine (Fk hL hq hp hw).bind fun T d=>?_
 obtain ⟨d,y⟩:=d
 have a:=(HM hL hq hp hw d).2
 have fin:∀i (e:i<T.length),(∀j (hj:j<T.length),j<i→(cF q w T[j]).2=false)→(cF q w T[i]).2=true→rJ q w T ({ bj:=0,At:=T[i],ae:=(cF q w T[i]).1 },true):=fun i e k h=>
  ⟨fun _=>⟨bE e,h,fun s hs n=>by
   obtain ⟨j,hj,rfl⟩:=km hs
   dsimp only
   rcases US j i with g | g | g
   ·simp_all
   ·simp_all
   ·have:=yAZ.1 d.bV i j e hj g; omega,rfl,rfl⟩,fun h=>by simp at h⟩
 have none:(∀j (hj:j<T.length),(cF q w T[j]).2=false)→rJ q w T ({ bj:=0,At:=0,ae:=[] },false):=fun k=>
  ⟨fun h=>by simp at h,fun _=>⟨Cy (A:=fun t=>(cF q w t).2=false) k,rfl⟩⟩
 rw [bo]
 refine ⟨fun h=>?_,fun h=>?_⟩
 ·rw [aY]
  grind
 ·have o:0<T.length:=by grind
  have p:aB T 0=some T[0]:=bW o
  rw [p,Option.bind_some,(AH hL hq hp hw (a _ (bE o))).1,Option.bind_some,bo]
  refine ⟨fun u=>?_,fun u=>?_⟩
  ·grind [aY]
  ·refine ja (T.length-1) (fun i x=>x=(T,((i+1:Nat):Int))∧∀j (hj:j<T.length),j<i+1→(cF q w T[j]).2=false) (fun i x f e m z=>?_) (fun x f m=>?_) ⟨rfl,fun j hj v=>?_⟩ (by omega)
   ·obtain ⟨rfl,k⟩:=m
    have b:i+1<T.length:=by omega
    dsimp only
    rw [if_neg (by grind),bW b,Option.bind_some,(AH hL hq hp hw (a _ (bE b))).1,Option.bind_some,bo]
    refine ⟨fun n=>?_,fun n=>?_⟩
    ·grind [aY]
    ·rw [bT (show i+1<1000000 by omega)]
     grind
   ·obtain ⟨rfl,k⟩:=m
    dsimp only
    rw [if_pos (by grind),aY]
    grind
   simp_all
theorem HG{t a:Int}(m:q.aX<=a)(h:a<=t)(o:∀n∈cz q w,∀u,a<=u->u<=t->bC q n u=bC q n t)(i:(cF q w t).2=true):(cF q w a).2=true:=by
 have Q:=hp.right;have p:=hq.now;have R:=hw.wall;have r:t<=1099511627776:=by
  rcases yCk 1099511627776 t with g | g
  ·exfalso;have T:T_ 5000 q w t=some ([],false):=by
    unfold T_
    simp_all
   grind [cF]
  omega
 obtain ⟨F,x,b,_,e⟩:=CO (by omega) hq hp hw (show q.aX<=t by omega) r;obtain ⟨G,y,d,_,U⟩:=CO (by omega) hq hp hw m (by omega);have w1:cF q w t=BU F (cz q w) w.aK w.ay:=by grind [cF]
 have w2:cF q w a=BU G (cz q w) w.aK w.ay:=by grind [cF]
 rw[w1] at i;rw[w2];obtain ⟨z,A⟩:=AD.1 i;refine AD.2 ⟨z,Int.le_trans A (OQ b d hw.need λn hn c=>?_)⟩;have nb:=b.node n hn;obtain ⟨E,_,K⟩:=yr (F:=F) nb.1 nb.2;obtain ⟨M,_,N⟩:=yr (F:=G) nb.1 (by grind [Gk.len]);have f:=x.low _ E;have k:=y.low _ M;rw[yBX nb.1] at f k;rw[K,N];obtain ⟨u,v,O,W,P,ev⟩:=k.cT c;rw[<-ev,P];by_cases g:u<t
 ·rw[o n hn u O (by omega)];exact f.le t _ (OF _) (by omega) rfl c
 ·exact f.le u _ (by omega) (by omega) rfl c
theorem Zh{t:Int}(a:(cF q w t).2=true):t<=1099511627776:=by
 rcases yCk 1099511627776 t with g | g
 ·exfalso;have b:T_ 5000 q w t=some ([],false):=by
   unfold T_
   simp_all
  grind [cF]
 omega
theorem KQ:∃r,zaQ 5000 nodes w.Part w.aK w.ay w.aW q.aX q.S.aG=some r/\zaB 5000 q w=some r/\(∃T,zZ q T/\rJ q w T r):=by
 obtain ⟨r,e,T,N,Y⟩:=Tm hL hq hp hw;obtain ⟨Z,e',v,i,d⟩:=Pm hL hq hp hw;obtain ⟨ep,hm⟩:=jI hw;have kp:=hq.spec.parts.ok _ hm;have aa:=hp.len;have O:=HM hL hq hp hw i;have f:∀t∈T,(cF q w t).2=true->∃h∈v,h<=t/\(cF q w h).2=true:=λt P Q=>by
  have A:=(N.mem t).1 P;obtain ⟨x,k,E,m,R⟩:=AN v (a:=q.aX) A.1;have U:x∈v:=by grind
  refine ⟨x,U,m,HG hL hq hp hw E m (λn hn u u1 u2=>?_) Q⟩;have nb:=kp.2.mem n hn;have hk:n.toNat<nodes.length:=by omega
  have v1:=hp.val n.toNat hk u (by omega);have v2:=hp.val n.toNat hk t A.1;rw[yBX nb.1] at v1 v2;obtain ⟨s,s1,s2,W,s4⟩:=v2;have sx:s.At<=x:=R _ ((i.mem _).2 ⟨n,hn,s,by simp_all,rfl⟩) s2;exact v1.Bk (hp.cT.each _ hk).1 ⟨s,s1,by omega,λs' o G=>W s' o (by omega),s4⟩
 have g:∀t∈v,(cF q w t).2=true->∃h∈T,h<=t/\(cF q w h).2=true:=λt P Q=>by
  have A:=O.2 t P;obtain ⟨x,k,E,m,R⟩:=AN T (a:=q.aX) A;have U:x∈T:=by
   rcases k with k | k
   ·rw[k];exact (N.mem _).2 ⟨OF _,.inl rfl⟩
   omega
  refine ⟨x,U,m,HG hL hq hp hw E m (λn hn u u1 u2=>?_) Q⟩;have c:∀y,x<=y->y<=t->bC q n y=bC q n x:=λy y1 y2=>Br E y1 λz z1 z2 z3=>by have:=R z ((N.mem z).2 ⟨z1,z2⟩) (by omega);omega
  simp_all
 have:Z=r:=by
  obtain ⟨p,b⟩:=r;obtain ⟨X,b'⟩:=Z;cases b with
  |true=>
   obtain ⟨o,G,h3,h4,h5⟩:=Y.yes rfl;dsimp only at o G h3 h4 h5;obtain ⟨h,t1,t2,t3⟩:=f _ o G;cases b' with
   |true=>
    obtain ⟨K,M,g3,g4,g5⟩:=d.yes rfl;dsimp only at K M g3 g4 g5;obtain ⟨s',s1,s2,W⟩:=g _ K M;have:=g3 _ t1 t3;have:=h3 _ s1 W;have ea:X.At=p.At:=by omega
    have:X=p:=by
     obtain ⟨a1,a2,a3⟩:=p;obtain ⟨b1,b2,b3⟩:=X
     simp_all
    rw[this]
   |false=>
    have:=(d.no rfl).1 _ t1
    simp_all
  |false=>
   obtain ⟨o,G⟩:=Y.no rfl;cases b' with
   |true=>
    obtain ⟨K,M,_⟩:=d.yes rfl
    grind
   |false=>
    obtain ⟨K,M⟩:=d.no rfl
    simp_all
 grind
end
end Go.Plain
end
section
namespace Go.Plain
open Go.Abs
def dY(u:Ba):jt:={ ay:=u.ay,ae:=u.ae,oK:=u.To }
structure YZ (q:iE):Prop where
 ref:qK q
 lo:∀u∈q.L,u.bJ=q.aX/\q.aX<u.To
 caps:∀(i k:Nat)(h:k<q.S.am.length)(t:Int)(c:Nat),cmp c (aZ (q.L.take i) k t)<=cmp c q.S.am[k]
 live:∀b∈q.az,q.aX<b.To
 zC:∀b∈q.az,∀t,b.bJ<=t->q.aX<=t->aZ q.L b.Node t=bN
theorem OX{q:iE}(h:YZ q):gQ 5000 (q.L.map dY) q.aX q.S.am.length=some true:=by
 have p:=h.ref.yL;unfold gQ;refine bL.eq (xq (q.L.map dY) (λ_ _=>True) (λi f b _ r=>?_) (λf t=>?_) (by grind))
 ·have a:i<q.L.length:=by simp_all
  have u:=h.ref.used _ (bE a);have v:=h.lo _ (bE a);have e:(q.L.map dY)[i]=dY q.L[i]:=Vb ..;obtain ⟨x,d,g⟩:=oM (dY q.L[i]).ae q.S.am.length u.yL;have:=g.2 u.shares;subst this;obtain ⟨y,k,m⟩:=Tu (dY q.L[i]).ay;have:=m.2 u.need;subst this;rw[if_pos (cM b),bW b,e,aD,fQ,d,aD,if_neg (by simp),k,aD];have n:decide ((dY q.L[i]).oK<=q.aX)=false:=by show decide (q.L[i].To<=q.aX)=false;simp_all
  have o:decide ((dY q.L[i]).oK > 281474976710656)=false:=by show decide (q.L[i].To > _)=false;have:=u.hi;simp_all
  rw[n,o];dsimp only;rw[if_neg (by simp),bT (show i<1000000 by omega)]
  simp_all
 ·rw[if_neg (by simp),aY]
theorem LX{a:Int}{r:aC}(h:0<=a/\a<=1099511627776)(b:aL r):dF [({ At:=a,cj:=r }:bP)]:=
 ⟨by simp,λi d=>by grind,λs hs=>by grind⟩
theorem SJ{a:Int}{r:aC}(h:0<=a/\a<=1099511627776)(b:aL r):vP 5000 a r=some ([{ At:=a,cj:=r }],0):=by unfold vP;rw[js (by simp) (LX h b),aD,if_neg (by simp)]
theorem Ih{q:iE}(k:bm q.S){i:Nat}(a:i<q.S.am.length):aL q.S.am[i]:=k.nodes.ok _ (bE a)
theorem MN{q:iE}(h:YZ q):bL (zex 5000 (q.L.map dY) q.S q.aX q.az) λr=>∃nodes,r=.inr (nodes,q.aX,q.S.aG)/\PR nodes q (1+2 * (q.L.length+q.az.length)):=by
 have hq:=h.ref;have hs:=fT hq.spec;have nn:=hq.spec.nodes.hi;have af:=hq.now;have hf:=hq.yL;have hb:=hq.cJ.len;unfold zex;obtain ⟨rb,eb,ax⟩:=DB q.az q.S.am.length (by omega);have:=ax.2 hq.cJ;subst this;rw[fQ,AO hs hq.spec,aD,if_neg (by simp;omega),eb,aD,if_neg (by simp),OX h,aD];dsimp only;rw[if_neg (by simp)];have av:=hs.parts;refine ja q.S.aG.length (λi x=>x=((i:Int),q.S.aG.take i)) (λi x f o K Z=>?_) (λx f K=>?_) rfl (by omega)
 ·subst K;have pl:=hs.part _ (bE o);dsimp only;rw[if_pos (cM o),bW o,aD];unfold zaT;rw[Ft (by omega),aD,Ap (by simp;omega),aD,bT (show i<1000000 by omega)];exact Z _ (by rw[Fc o])
 subst K;dsimp only;rw[if_neg (by simp),yh];refine ja q.S.am.length (λi x=>x.1=(i:Int)/\x.2=(q.S.am.take i).map λr=>[({ At:=q.aX,cj:=r }:bP)]) (λi x f o K Z=>?_) (λx f K=>?_) ⟨rfl,rfl⟩ (by omega)
 ·obtain ⟨y,M⟩:=x;obtain ⟨rfl,rfl⟩:=K;dsimp only;rw[if_pos (cM o),bW o,aD,SJ af (Ih hq.spec o),aD,if_neg (by simp),Ap (by simp;omega),aD,bT (show i<1000000 by omega)];exact Z _ ⟨rfl,by rw[Fc o,yB8];rfl⟩
 obtain ⟨y,M0⟩:=x;obtain ⟨rfl,rfl⟩:=K;dsimp only;rw[if_neg (by simp),yh];have ak:∀(r:aC)(t:Int),q.aX<=t->ya [({ At:=q.aX,cj:=r }:bP)] t r:=λr t N=>⟨_,Bl.2 rfl,N,λs' E _=>by rw[Bl.1 E];exact OF _,rfl⟩;refine ja (q.L.map dY).length (λi x=>x.1=(i:Int)/\x.2.length=q.S.am.length/\CJ x.2 q.aX (1+2 * i)/\∀(k:Nat)(E:k<x.2.length)(W:k<q.S.am.length)(t:Int),q.aX<=t->ya x.2[k] t (fj q.S.am[k] (aZ (q.L.take i) k t))) (λi x f o K Z=>?_) (λx f K=>?_) ⟨rfl,by simp,⟨λk hk=>?_,λk hk E=>by simp⟩,λk E W t N=>?_⟩ (by simp;omega)
 ·obtain ⟨y,M⟩:=x;obtain ⟨rfl,O,p,G⟩:=K;dsimp only at O p G ⊢;have aa:i<q.L.length:=by simpa using o
  have u:=hq.used _ (bE aa);have lo:=h.lo _ (bE aa);have e:(q.L.map dY)[i]=dY q.L[i]:=Vb ..;have st:∀k t,aZ (q.L.take (i+1)) k t=Bh (aZ (q.L.take i) k t) (jN q.L[i] k t):=λk t=>by rw[Fc aa,nB]
  rw[if_pos (cM o),bW o,e,aD];refine (Bo (by omega) p (by omega) (a:=q.aX) (b:=(dY q.L[i]).oK) (l:=(dY q.L[i]).ae) (need:=(dY q.L[i]).ay) (by rw[O];exact u.shares) u.yL u.need (OF _) (show q.aX<q.L[i].To by omega) u.hi (λk hk t v h1 W hv c=>?_)).bind λr ab=>?_
  ·have Q:k<q.S.am.length:=by omega
   have ev:=hv.Bk (p.each k hk).1 (G k hk Q t h1);have cp:=h.caps (i+1) k Q t c;rw[st,vT] at cp;have ea:jN q.L[i] k t=mulR (dM q.L[i].ae k) q.L[i].ay:=by unfold jN;rw[if_pos ⟨by omega,W⟩]
   rw[ea] at cp;rw[ev,B_];show cmp c (mulR (dM q.L[i].ae k) q.L[i].ay)<=_;omega
  ·obtain ⟨r1,r2,r3⟩:=ab;rw[if_neg (by simp[r1]),bT (show i<1000000 by omega)];refine Z _ ⟨rfl,by dsimp only;omega,⟨λk hk=>?_,λk hk E=>?_⟩,λk E W t N=>?_⟩
   ·have T:=r3 k (by dsimp only at hk;omega) hk;exact ⟨T.ok,by have:=T.len;have:=(p.each k (by dsimp only at hk;omega)).2;dsimp only at *;omega⟩
   ·have T:=r3 k (by dsimp only at hk;omega) hk;have n0:=(p.each k (by dsimp only at hk;omega)).1.ne;dsimp only;rw[T.first n0 E,p.first k (by dsimp only at hk;omega) n0]
   ·have T:=r3 k (by dsimp only at E;omega) E;have:=T.val t _ (G k (by omega) W t N);dsimp only;rw[st];by_cases g:t<q.L[i].To
    ·have ea:jN q.L[i] k t=mulR (dM q.L[i].ae k) q.L[i].ay:=by unfold jN;rw[if_pos ⟨by omega,g⟩]
     rw[if_pos ⟨N,g⟩] at this;rw[ea,<-Gw];exact this
    ·have ea:jN q.L[i] k t=bN:=by unfold jN;rw[if_neg λX=>g X.2]
     rw[if_neg (show ¬(q.aX<=t/\t<(dY q.L[i]).oK) from λX=>g X.2)] at this;rw[ea,GM];exact this
 ·obtain ⟨y,M⟩:=x;obtain ⟨rfl,O,p,G⟩:=K;dsimp only at O p G ⊢;rw[if_neg (by simp)];rw[xw,yh] at G;rw[xw] at p;refine ja q.az.length (λi x=>x.1=(i:Int)/\x.2.length=q.S.am.length/\CJ x.2 q.aX (1+2 * (q.L.length+i))/\∀(k:Nat)(E:k<x.2.length)(t:Int),q.aX<=t->ya x.2[k] t (bC { q with az:=q.az.take i } k t)) (λi x f o K Z=>?_) (λx f K=>?_) ⟨rfl,O,by simpa using p,λk E t N=>?_⟩ (by omega)
  ·obtain ⟨y,M⟩:=x;obtain ⟨rfl,O,p,G⟩:=K;dsimp only at O p G ⊢;have bk:=hq.cJ.each i o;have lv:=h.live _ (bE o);have nd:=bk.one.node;obtain ⟨n,en⟩:∃n:Nat,q.az[i].Node=(n:Int):=⟨q.az[i].Node.toNat,by omega⟩;have hn:n<M.length:=by omega
   have ad:n<q.S.am.length:=by omega
   obtain ⟨sk,lk⟩:=p.each n hn;have f0:=p.first n hn sk.ne;rw[if_pos (cM o),fQ,bW o,aD,if_neg (by simp;omega),en,bW hn,aD,bW ad,aD];have nv:=Ih hq.spec ad;have an:kk q.S.am (n:Int)=q.S.am[n]:=zP ad;have Y:∀t,q.aX<=t->q.az[i].bJ<=t->t<q.az[i].To->bC { q with az:=q.az.take i } n t=q.S.am[n]:=λt h1 W h3=>by
    unfold bC;rw[if_neg]
    ·have:=h.zC _ (bE o) t W h1;rw[en] at this;show fj (kk q.S.am n) (aZ q.L n t)=_;rw[this,an];exact dU λc=>by rw[B_,NH];omega
    ·rintro ⟨b,R,m1,m2,m3⟩;obtain ⟨j,hj,rfl⟩:=NF.1 R;rw[BY] at hj;simp only[Ss] at m1 m2 m3;refine (bk.up j (by omega) (by omega)).2 ⟨by rw[m1,en],by omega,bk.one.span,by omega,by omega⟩
   have a0:=bk.one.lo;have a1:=bk.one.hi;have sp:=bk.one.span;have mx:∀P:Int->Prop,P (if q.aX > q.az[i].bJ then q.aX else q.az[i].bJ)=P (max q.aX q.az[i].bJ):=λP=>by congr 1;split <;> omega
   rw[show (if q.aX > q.az[i].bJ then q.aX else q.az[i].bJ)=max q.aX q.az[i].bJ by split <;> omega]
   refine (xx (by omega) sk nv (by omega) (show max q.aX q.az[i].bJ<q.az[i].To by omega) (by omega) λt v h1 W hv c=>?_).bind λr ab=>?_
   ·have ev:=hv.Bk sk (G n hn t (by omega));rw[ev,Y t (by omega) (by omega) W];exact OF _
   ·obtain ⟨r1,T⟩:=ab;rw[if_neg (by simp[r1]),aD,bT (show i<1000000 by omega),xAc];refine Z _ ⟨rfl,by simp[O],⟨λk hk=>?_,λk hk E=>?_⟩,λk E t N=>?_⟩
    ·by_cases g:n=k
     ·subst g;have e:(M.set n r.1)[n]'(by simpa using hn)=r.1:=yB1 _;show dF (M.set n r.1)[n]/\(M.set n r.1)[n].length<=_;rw[e];exact ⟨T.ok,by have:=T.len;omega⟩
     ·have d:k<M.length:=by simpa using hk
      have e:(M.set n r.1)[k]'(by simpa using d)=M[k]:=yB9 g _;show dF (M.set n r.1)[k]/\(M.set n r.1)[k].length<=_;rw[e];have:=p.each k d;exact ⟨this.1,by have:=this.2;omega⟩
    ·by_cases g:n=k
     ·subst g;have e:(M.set n r.1)[n]'(by simpa using hn)=r.1:=yB1 _;simp only[e];rw[T.first sk.ne T.ok.ne,f0]
     ·have d:k<M.length:=by simpa using hk
      have e:(M.set n r.1)[k]'(by simpa using d)=M[k]:=yB9 g _;simp only[e];exact p.first k d (p.each k d).1.ne
    ·have d:k<M.length:=by simpa using E
     have A:DW (q.az.take (i+1)) k t↔DW (q.az.take i) k t∨(q.az[i].Node=(k:Int)/\q.az[i].bJ<=t/\t<q.az[i].To):=by
      unfold DW;rw[Fc o];constructor
      ·rintro ⟨b,R,m⟩;rcases mQ.1 R with g | g
       ·exact .inl ⟨b,g,m⟩
       ·rw[Bl.1 g] at m;exact .inr m
      ·rintro (⟨b,g,m⟩ | m)
       ·exact ⟨b,yB4 _ g,m⟩
       ·exact ⟨_,yBz _ (Bl.2 rfl),m⟩
     by_cases g:n=k
     ·subst g;have e:(M.set n r.1)[n]'(by simpa using hn)=r.1:=yB1 _;simp only[e];have Vd:=G n hn t N;have new:=T.val t _ Vd;by_cases X:q.az[i].bJ<=t/\t<q.az[i].To
      ·rw[if_pos ⟨by omega,X.2⟩,Y t N X.1 X.2] at new;have:bC { q with az:=q.az.take (i+1) } n t=bN:=by
        unfold bC;rw[if_pos];exact A.2 (.inr ⟨en,X⟩)
       rw[this];have z:fj q.S.am[n] q.S.am[n]=bN:=dU λc=>by rw[B_,NH];omega
       rw[z] at new;exact new
      ·rw[if_neg λU=>X ⟨by omega,U.2⟩] at new;have:bC { q with az:=q.az.take (i+1) } n t=bC { q with az:=q.az.take i } n t:=by
        unfold bC;by_cases U:DW (q.az.take i) n t
        ·rw[if_pos (show DW (q.az.take (i+1)) n t from A.2 (.inl U)),if_pos (show DW (q.az.take i) n t from U)]
        ·rw[if_neg (show ¬DW (q.az.take (i+1)) n t from λg4=>(A.1 g4).elim U λg5=>X g5.2),if_neg (show ¬DW (q.az.take i) n t from U)]
       rw[this];exact new
     ·have e:(M.set n r.1)[k]'(by simpa using d)=M[k]:=yB9 g _;simp only[e];have:bC { q with az:=q.az.take (i+1) } k t=bC { q with az:=q.az.take i } k t:=by
       unfold bC;by_cases U:DW (q.az.take i) k t
       ·rw[if_pos (show DW (q.az.take (i+1)) k t from A.2 (.inl U)),if_pos (show DW (q.az.take i) k t from U)]
       ·rw[if_neg (show ¬DW (q.az.take (i+1)) k t from λg4=>(A.1 g4).elim U λg5=>by rw[en] at g5;omega),if_neg (show ¬DW (q.az.take i) k t from U)]
      rw[this];exact G k d t N
  ·obtain ⟨y,M⟩:=x;obtain ⟨rfl,O,p,G⟩:=K;dsimp only at O p G ⊢;rw[if_neg (by simp),aY];rw[yh] at G;exact ⟨M,rfl,O,p,G⟩
  ·have e:bC { q with az:=q.az.take 0 } k t=fj (kk q.S.am k) (aZ q.L k t):=by
    unfold bC;rw[if_neg];rintro ⟨b,R,_⟩;simp at R
   have Q:k<q.S.am.length:=by dsimp only at E;omega
   rw[e,zP Q];exact G k E Q t N
 ·have d:k<q.S.am.length:=by simpa using hk
  have e:((q.S.am).map λr=>[({ At:=q.aX,cj:=r }:bP)])[k]'(by simpa using d)=[{ At:=q.aX,cj:=q.S.am[k] }]:=Vb ..;simp only[e];exact ⟨LX af (Ih hq.spec d),by simp⟩
 ·have e:((q.S.am).map λr=>[({ At:=q.aX,cj:=r }:bP)])[k]'(by simpa using W)=[{ At:=q.aX,cj:=q.S.am[k] }]:=Vb ..;simp only[e];have z:fj q.S.am[k] (aZ (q.L.take 0) k t)=q.S.am[k]:=dU λc=>by rw[B_];simp[aZ,NH]
  rw[z];exact ak _ t N
end Go.Plain
end
section
namespace Go.Plain
open Go.Abs
def zeroJ:aM:={ Id:=0,cU:=0,Queue:=0,aK:=0,ay:={ bK:=0,Mem:=0,bM:=0,bO:=0 },aW:=0,aI:=[],State:=0,Ok:=false,dw:=false,aO:=0,dB:=0,Start:=0,End:=0,Array:=0 }
theorem Ya{l:List aM}(b:l.length<=300)(hs:b_ l)(id:Int):bL (zaG 5000 l id) λr=>(r.2=true↔∃j∈l,j.Id=id)/\(r.2=true->At l id r.1):=by
 unfold zaG;rw[jD];refine half b hs id (λj=>some (decide (j.Id<id))) (λj hj=>rfl) (λi=>some i) (λi g m n=>?_) _ (λf x=>?_)
 ·rw[aY,bo];refine ⟨λh=>?_,λh=>?_⟩
  ·simp only[br] at h;have a:i<l.length:=by omega
   rw[bW a,aD,aY];simp only[my];refine ⟨⟨λe=>⟨_,bE a,e⟩,λ⟨j,d,e⟩=>?_⟩,λe=>⟨by omega,by omega,by simp_all⟩⟩;obtain ⟨k,hk,rfl⟩:=km d;rcases US k i with q | q | q
   ·grind
   ·simp_all
   ·have:=hs.lt q hk;grind
  ·simp only[br] at h;simp only[aY,bX,Fe,false_implies,Nr]
   grind [List.getElem_of_mem]
 grind
section
variable{l:List aM}
theorem GQ(d:l.length<=300)(hs:b_ l){k:Nat}(hk:k<l.length):zaG 5000 l l[k].Id=some ((k:Int),true):=by obtain ⟨⟨r,b⟩,e,f,g⟩:=Ya d hs l[k].Id;have h:b=true:=f.2 ⟨_,bE hk,rfl⟩;subst h;have a:At l l[k].Id r:=g rfl;have:=hs.inj a.hi hk a.is;have:=a.lo;rw[e,show r=(k:Int) by omega]
theorem uE{j:aM}(h:f_ j):Zy 5000 j=some true:=by obtain ⟨r,e,q⟩:=AR j;rw[e,q.2 h]
theorem Oz(hs:b_ l){k:Nat}(hk:k<l.length){j:aM}(d:j.Id=l[k].Id):b_ (l.set k j):=by
 have a:∀i (h:i<l.length),((l.set k j)[i]'(by simp_all)).Id=l[i].Id:=λi h=>by grind
 intro i e;have b:i+1<l.length:=by simp_all
 rw[a i (by omega),a (i+1) b];exact hs i b
end
def OJ(x:Int):Int:=if x≥281474976710656 then 0 else x+1
theorem Ng{x:Int}(h:0<=x):fU 5000 x=some (OJ x):=by
 unfold fU OJ;simp only[br]
 grind [wr]
def rA(Q:List Int)(q:Int):List Int:=if 0<=q/\q<Q.length then Q.set q.toNat (OJ (Q[q.toNat]?.getD 0)) else Q
theorem NT(Q:List Int)(q:Int):(rA Q q).length=Q.length:=by grind [rA]
def qe(Q:List Int):Prop:=∀x∈Q,0<=x/\x<=281474976710656
theorem Rx{x:Int}(h:0<=x/\x<=281474976710656):0<=OJ x/\OJ x<=281474976710656:=by grind [OJ]
theorem Hf{Q:List Int}(h:qe Q)(q:Int):qe (rA Q q):=by
 unfold rA;split
 ·rename_i hq;have a:q.toNat<Q.length:=by omega
  intro x b;rcases List.mem_or_eq_of_mem_set b with e | e
  ·exact h x e
  ·subst e;rw[eH a];exact Rx (h _ (bE a))
 ·exact h
theorem MC{Q:List Int}(h:qe Q)(q:Int):zba 5000 Q q=some (rA Q q):=by
 unfold zba rA;by_cases hq:0<=q/\q<Q.length
 ·rw[if_pos (by simp_all),if_pos hq];obtain ⟨a,e⟩:=FJ (l:=Q) hq.1 hq.2;rw[e,aD,Ng (h _ (bE a)).1,aD,aD,eH a];rfl
 grind
def oJ(Q:List Int)(a b:Int):List Int:=if b=a then rA Q a else rA (rA Q a) b
theorem Mq(Q:List Int)(a b:Int):(oJ Q a b).length=Q.length:=by grind [oJ,NT]
theorem OW{Q:List Int}(h:qe Q)(a b:Int):qe (oJ Q a b):=by grind [oJ,Hf]
section
variable{l:List aM}
def DF(x:Int):Prop:=x=1∨x=2
instance (x:Int):Decidable (DF x):=by unfold DF;infer_instance
theorem Pg(x:Int):i_ 5000 x=some (decide (DF x)):=by unfold i_;congr 1;rw[Bool.eq_iff_iff];rw[br];simp only[gp,my,DF]
end
structure Shows (st:cw):Prop where
 bp:st.aj.length<=300
 after:∀j∈st.aj,j.aI.length<=10
 cf:st.ah.length<=300
 asc:zU st.ah
 ids:∀a∈st.ah,0<=a.bj/\a.bj<=1048576
 sh:∀a∈st.ah,a.ae.length<=300
 cJ:st.az.length<=20
 use:st.nR.length<=20
 stamps:st.aE.aq.length<=20
theorem Xc{s:bn}{st:cw}(hw:lF s st)(q:bx s st):Shows st:=
 ⟨hw.bp,hw.after,hw.cf,AF q,HE q,hw.sh,hw.cJ,hw.use,hw.stamps⟩
theorem VU{st:cw}(h:Shows st) :
  UU 5000 st.aE.aq st.aj (st.ah.map λa=>(a.bj,a)) st.aX st.Next st.dV st.az st.nR st.aE.am=some st:=by
 have b:=h.bp;have d:=h.cJ;have e:=h.use;have hs:=h.stamps;unfold UU;rw[MW (by omega) h.after,aD,show aU 5000 (st.ah.map λa=>(a.bj,a))=some st.ah from DG h.cf h.asc h.ids h.sh,aD,BD (by omega),aD,qN (by omega),aD,show zb4 5000 st.aE.aq=some st.aE.aq from Ft (by omega),aD]
end Go.Plain
end
section
namespace Go.Plain
open Go.Abs
section
variable{l:List aM}
theorem get_some(a:l.length<=300)(hs:b_ l){k:Nat}(hk:k<l.length)(b:l[k].aI.length<=1000):zbm 5000 l l[k].Id=some (l[k],true):=by unfold zbm;rw[GQ a hs hk,aD];simp only[NE,bX,cn];rw[bW hk,aD,Ct (by omega),aD]
theorem WY(a:l.length<=300)(hs:b_ l){k:Nat}(hk:k<l.length)(b:l[k].aI.length<=1000):zcF 5000 l l[k].Id=some (l[k],true):=by unfold zcF;rw[get_some a hs hk b,aD]
end
end Go.Plain
end
section
namespace Go.Plain
open Go.Abs
theorem Wr{l:List aM}(d:l.length<=300)(hs:b_ l){i:Nat}(b:i<l.length):WA 5000 l l[i].Id=some (i:Int):=by
 obtain ⟨r,e,f,g,_⟩:=vn d l[i].Id;have h:0<=r:=f.2 ⟨_,bE b,rfl⟩;have a:=g h;have:=hs.inj a.hi b a.is
 grind
def Lu(st:cw)(id:Int):aM:=(st.aj.find? λj=>j.Id == id).getD zeroJ
theorem WH{st:cw}(hs:b_ st.aj){i:Nat}(a:i<st.aj.length):Lu st st.aj[i].Id=st.aj[i]:=by
 unfold Lu;obtain ⟨j,e⟩:∃j,st.aj.find? (λj=>j.Id == st.aj[i].Id)=some j:=by
  cases h:st.aj.find? (λj=>j.Id == st.aj[i].Id) with
  |some j=>simp_all
  |none=>
   have:=List.find?_eq_none.1 h _ (bE a)
   simp_all
 rw[e,xAd];have b:=List.find?_some e;simp only[my] at b;obtain ⟨k,hk,rfl⟩:=km (yBh e);have:=hs.inj hk a b
 simp_all
def qV(st:cw)(a:ca):Int:=(Lu st a.bj).Start+(Lu st a.bj).aW
def dK(st:cw)(a:ca):Ba:={ bJ:=st.aX,To:=qV st a,ay:=a.ay,ae:=a.ae }
def dE(s:bn)(st:cw):iE:={ S:=s,aX:=st.aX,L:=st.ah.map (dK st),az:=st.az }
section
variable{s:bn}{st:cw}(hw:lF s st)(q:bx s st)
include hw q
theorem qA{a:ca}(d:a∈st.ah):∃i,∃h:i<st.aj.length,st.aj[i].Id=a.bj/\eW s st st.aj[i] a/\sP st.aj[i]=true/\Lu st a.bj=st.aj[i]:=by obtain ⟨j,hj,P⟩:=eO.mem q.cf a d;obtain ⟨e,f⟩:=QN.1 hj;obtain ⟨i,b,rfl⟩:=km e;exact ⟨i,b,P.Eo.symm,P,f,by rw[P.Eo];exact WH q.bp.bV b⟩
theorem Em{a:ca}(b:a∈st.ah):st.aX<qV st a/\qV st a<=st.aX+65536:=by
 obtain ⟨i,d,_,P,_,e⟩:=qA hw q b;have j:=q.bp.each _ (bE d);have f:=P.now;have g:=j.start;have h:=j.ok.wall
 grind [qV]
omit hw q in
theorem Mp{H:List aM}{A:List ca}{F:List aC}(h:eO s st H A F):A.length=H.length:=by
 induction H generalizing A F with
 |nil=>rw[show A=[] from h];rfl
 |cons j H ih=>obtain ⟨b,a,rfl,_,_,d⟩:=h;grind
theorem yn:st.ah.length<=st.aj.length:=by rw[Mp q.cf];grind
omit hw q in
theorem AB(L:List Ba)(k t:Int)(c:Nat):cmp c (aZ L k t)=(L.map λu=>cmp c (jN u k t)).sum:=by
 have:∀(L:List Ba)(r:aC),cmp c (L.foldl (λr u=>Bh r (jN u k t)) r)=cmp c r+(L.map λu=>cmp c (jN u k t)).sum:=by
  intro L;induction L with
  |nil=>simp_all
  |cons u L ih=>grind [vT]
 grind [aZ.eq_1,NH]
omit hw q in
theorem caps_of{H:List aM}{A:List ca}{F:List aC}(h:eO s st H A F)(n:∀r∈F,aL r)(a:∀j∈H,aL j.ay)(k:Nat)(hk:k<F.length)(t:Int)(c:Nat):((A.map (dK st)).map λu=>cmp c (jN u k t)).sum<=cmp c F[k]:=by
 induction H generalizing A F with
 |nil=>
  rw[show A=[] from h]
  grind [vB,List.getElem_mem]
 |cons j H ih=>
  obtain ⟨b,p,rfl,P,e,f⟩:=h;have d:k<(kP F b).length:=by grind [Zz]
  have:=ih f (uC e) (λi g=>a i (oD _ g)) d;rw[mI d] at this;unfold pV at this;rw[B_] at this;rw[tn,tn,List.sum_cons];have le:cmp c (jN (dK st b) k t)<=cmp c (mulR (dM b.ae k) b.ay):=by
   unfold jN;split
   ·exact OF _
   ·rw[NH];rw[AP];have o:=xH (l:=b.ae) (λx m=>by have:=(P.qB.shares.mem x m);omega) k;rw[P.need];exact yBL o (vB.1 (a j (rX ..)) c).1
  omega
theorem Kf:∀u∈(dE s st).L,ud u s.am.length:=λu f=>by
 obtain ⟨a,d,rfl⟩:=iT.1 f;obtain ⟨i,g,_,P,_,e⟩:=qA hw q d;have j:=q.bp.each _ (bE g);have b:=Em hw q d;have n:=q.nums.now;refine ⟨P.qB.shares,hw.sh a d,?_,n.1,?_⟩
 ·show aL a.ay;rw[P.need];exact j.ok.need
 ·show qV st a<=_;omega
theorem Ju(a:st.aj.length<=30):qK (dE s st):={
 spec:=q.spec
 now:=q.nums.now
 cJ:=q.kH.cJ
 used:=Kf hw q
 yL:=by have:=yn hw q;show (st.ah.map (dK st)).length<=100;grind }
theorem YJ(f:st.aj.length<=30):YZ (dE s st):={
 ref:=Ju hw q f
 lo:=λu hu=>by obtain ⟨a,d,rfl⟩:=iT.1 hu;exact ⟨rfl,(Em hw q d).1⟩
 caps:=λi k hk t c=>by
  have o:=caps_of q.cf q.spec.nodes.ok (λj hj=>(q.bp.each j (QN.1 hj).1).ok.need) k hk t c;rw[AB];show ((((st.ah.map (dK st)).take i)).map λu=>cmp c (jN u k t)).sum<=cmp c s.am[k];have p:((st.ah.map (dK st)).map λu=>cmp c (jN u k t)).sum=(((st.ah.map (dK st)).take i).map λu=>cmp c (jN u k t)).sum+(((st.ah.map (dK st)).drop i).map λu=>cmp c (jN u k t)).sum:=by grind [List.take_append_drop]
  have N:0<=(((st.ah.map (dK st)).drop i).map λu=>cmp c (jN u k t)).sum:=by
   have:∀M:List Ba,(∀u∈M,ud u s.am.length)->0<=(M.map λu=>cmp c (jN u k t)).sum:=by
    intro M;induction M with
    |nil=>simp_all
    |cons u M ih=>
     intro m;have:=ih λv r=>m v (oD _ r);have:=JM (m u (rX ..)) k t c
     grind
   exact this _ λu hu=>Kf hw q u (yBi hu)
  omega
 live:=λb h=>(q.kH.live b h).2
 zC:=λb h t o p=>dU λc=>by
  rw[AB,NH];show ((st.ah.map (dK st)).map λu=>cmp c (jN u b.Node t)).sum=0;have:∀x∈(st.ah.map (dK st)).map λu=>cmp c (jN u b.Node t),x=0:=λx A=>by
   obtain ⟨u,hu,rfl⟩:=iT.1 A;obtain ⟨a,d,rfl⟩:=iT.1 hu;obtain ⟨i,hi,E,P,_,e⟩:=qA hw q d;by_cases g:∃y∈a.ae,y.Node=b.Node
   ·obtain ⟨y,G,K⟩:=g;have:=q.kH.zC a d _ (bE hi) E y G b h K.symm;unfold jN;rw[if_neg,NH];show ¬(st.aX<=t/\t<qV st a)
    grind [qV]
   ·have z:dM a.ae b.Node=0:=by
     grind [zz]
    unfold jN;split
    ·show cmp c (mulR (dM a.ae b.Node) a.ay)=0
     grind [AP]
    grind [NH]
  have n:∀M:List Int,(∀x∈M,x=0)->M.sum=0:=by
   intro M;induction M with
   |nil=>simp_all
   |cons x M ih=>simp_all
  simp_all }
theorem FR:zcX 5000 s st=some (dE s st):=by
 have d:=hw.bp;have n:=hw.cf;unfold zcX;refine bL.eq (ja st.ah.length (λi x=>x=((i:Int),s.am,s.aG,s.aq,s.aR,s.ai.kN,s.ai.cK,s.ai.fB,s.ai.bI,s.bR,s.Mode,s.aj,s.jX,s.aF,s.bg,s.cX,s.In,s.Out,s.bQ,st.aX,(st.ah.take i).map (dK st),st.az)) (λi x f a b g=>?_) (λx f b=>?_) rfl (by omega))
 ·subst b;have h:=bE a;obtain ⟨k,hk,m,P,_,e⟩:=qA hw q h;have j:=q.bp.each _ (bE hk);have o:=j.ok.wall;have p:=j.ok.start;dsimp only;rw[if_pos (cM a),bW a,aD,<-m,Wr d q.bp.bV hk,aD,bW hk,aD,wr (x:=_+_) (by omega) (by omega)];unfold zc9;dsimp only;rw[Ft (by grind),aD,Ap (by grind),aD,aD,bT (show i<1000000 by omega)];refine g _ ?_;rw[Fc a,yB8];have:dK st st.ah[i]={ bJ:=st.aX,To:=st.aj[k].Start+st.aj[k].aW,ay:=st.ah[i].ay,ae:=st.ah[i].ae }:=by
   grind [dK,qV]
  simp_all
 ·subst b;dsimp only;rw[if_neg (by simp),aY,yh];rfl
theorem TU{i:Nat}(a:i<st.aj.length)(h:sP st.aj[i]=true):vU 5000 st.aj[i]=some (st.aj[i].Start+st.aj[i].aW):=by have j:=q.bp.each _ (bE a);have b:=j.ok.wall;have d:=j.ok.start;unfold vU eo;rw[fQ,uE j.ok,aD,if_neg (by simp),aD];dsimp only;unfold sP at h;rw[h,if_neg (by simp),wr (by omega) (by omega)]
theorem FN(d:st.aj.length<=30){h:List (Int×ca)}(m:UU 5000 st.aE.aq st.aj h st.aX st.Next st.dV st.az st.nR st.aE.am=some st):∃nodes,zdn 5000 st.aE.aq st.aj h s.am s.aG s.aq s.aR s.ai.kN s.ai.cK s.ai.fB s.ai.bI s.bR s.Mode s.aj s.jX s.aF s.bg s.cX s.In s.Out s.bQ st.aX st.Next st.dV st.az st.nR st.aE.am=some (.inr (nodes,st.aX,s.aG))/\PR nodes (dE s st) (1+2 * (st.ah.length+st.az.length)):=by
 have n:=hw.bp;have v:=hw.cf;obtain ⟨r,e,nodes,rfl,hp⟩:=MN (YJ hw q d);have o:(dE s st).L.length=st.ah.length:=xw ..;rw[o] at hp;refine ⟨nodes,?_,hp⟩;unfold zdn;rw[m,aD];have z:EY ({ ay:=({ bK:=0,Mem:=0,bM:=0,bO:=0 }:aC),ae:=[],oK:=0 }:jt) 0 (st.ah.length:Int)=some []:=by
  unfold EY
  grind
 rw[z,aD];refine bL.eq (ja st.ah.length (λi x=>x=((i:Int),(st.ah.take i).map λa=>dY (dK st a))) (λi x f b g p=>?_) (λx f g=>?_) rfl (by omega))
 ·subst g;have t:=bE b;obtain ⟨k,hk,u,P,hj,y⟩:=qA hw q t;dsimp only;rw[if_pos (cM b),bW b,aD,<-u,WY n q.bp.bV hk (by have:=hw.after _ (bE hk);omega),aD,TU hw q hk hj,aD,Ap (by grind),aD,bT (show i<1000000 by omega)];refine p _ ?_;rw[Fc b,yB8];have:dY (dK st st.ah[i])={ ay:=st.ah[i].ay,ae:=st.ah[i].ae,oK:=st.aj[k].Start+st.aj[k].aW }:=by
   grind [dY,dK,qV]
  simp_all
 ·subst g;dsimp only;rw[if_neg (by simp),nh hw.spec,aD,yh];have:(st.ah.map λa=>dY (dK st a))=(dE s st).L.map dY:=by show _=(st.ah.map (dK st)).map dY;simp_all
  rw[this];have A:zex 5000 ((dE s st).L.map dY) s st.aX st.az=some (.inr (nodes,st.aX,s.aG)):=e
  grind [aY]
end
end Go.Plain
end
section
namespace Go.Plain
open Go.Abs
theorem few30P(s:bn)(st:cw):bL (zcD 5000 s st) λr=>r=true->st.aj.length<=30:=by
 simp only[zcD,fQ];refine (few07 s).bind λr b=>?_;simp only[if_true,aY,bo];refine ⟨by simp,λh=>?_⟩;refine (few17 st.aj).bind λd a=>?_;simp only[bo,aY];refine ⟨by simp,λh=>?_⟩;simp only[gp,br,not_or,Int.not_lt,iF,oh] at h;obtain ⟨⟨⟨⟨h,e⟩,g⟩,k⟩,m⟩:=h;have n:=a h;refine xq st.ah (λ_ q=>True) (λi f h _ b=>?_) (λf hq=>?_) (by omega)
 ·simp only[cM h,if_true,bW h,Option.bind_some,bT (show i<1000000 by omega),bo,aY,br]
  simp_all
 ·simp only[eU,bX,cn,aY];omega
def cZ(s:bn)(j:aM):AI:={ Part:=((s.aq[j.Queue.toNat]?).getD default).Part,aK:=j.aK,ay:=j.ay,aW:=j.aW }
theorem uY{s:bn}{j:aM}(hq:0<=j.Queue/\j.Queue<s.aq.length):∃h:j.Queue.toNat<s.aq.length,aB s.aq j.Queue=some s.aq[j.Queue.toNat]/\cZ s j={ Part:=s.aq[j.Queue.toNat].Part,aK:=j.aK,ay:=j.ay,aW:=j.aW }:=by grind [FJ,cZ]
theorem vE{s:bn}{st:cw}{q:iE}(k:bm s)(eq:q.S=s){j:aM}(h:np s st j):jd q (cZ s j):=by obtain ⟨a,_,e⟩:=uY ⟨h.ok.queue.1,h.queue⟩;have b:=k.gT.ok _ (bE a);have m:=h.ok.many;rw[e];exact ⟨by rw[eq];exact b.part,by grind,h.ok.need,h.ok.uM,h.ok.wall⟩
def named(j:aM)(r:gX×Bool):gX×Bool:=if r.2=true then ({ bj:=j.Id,At:=r.1.At,ae:=r.1.ae },true) else ({ bj:=0,At:=0,ae:=[] },false)
section
variable{nodes:List (List bP)}{q:iE}{L:Nat}(hL:L<=200)(hq:qK q)(hp:PR nodes q L){st:cw}{j:aM}(hj:np q.S st j)
include hL hq hp hj
theorem MD:∃r,(zbw 5000 nodes j q.S.am q.S.aG q.S.aq q.S.aR q.S.ai.kN q.S.ai.cK q.S.ai.fB q.S.ai.bI q.S.bR q.S.Mode q.S.aj q.S.jX q.S.aF q.S.bg q.S.cX q.S.In q.S.Out q.S.bQ q.aX q.S.aG=some (named j r))/\zbV 5000 q.S q j=some (named j r)/\∃T,zZ q T/\rJ q (cZ q.S j) T r:=by
 have hw:=vE hq.spec rfl hj;obtain ⟨r,a,b,T,g,d⟩:=KQ hL hq hp hw;obtain ⟨n,e,i⟩:=uY ⟨hj.ok.queue.1,hj.queue⟩;have k:=hj.queue;have m:=hj.ok.queue.1;rw[i] at a b;refine ⟨r,?_,?_,T,g,d⟩
 ·unfold zbw;rw[nh (fT hq.spec),aD,if_neg (by simp_all),e,aD];dsimp only at a;rw[a,aD];unfold named
  grind
 ·unfold zbV gN;rw[e,aD,aD,b,aD,fQ];unfold named;by_cases h:r.2=true
  ·simp_all
  ·have f:r.2=false:=by simp_all
   rw[if_neg h,if_neg h,(d.no f).2,f]
end
section
variable{nodes:List (List bP)}{q:iE}{L:Nat}(hL:L<=200)(hq:qK q)(hp:PR nodes q L){w:AI}(hw:jd q w)
include hL hq hp hw
end
end Go.Plain
end
section
namespace Go.Plain
open Go.Abs
theorem Jm{l:List cW}{n:Int}(h:a_ l n){y:cW}(k:∀x∈l,x.Node<y.Node)(a:0<=y.Node/\y.Node<n)(hm:1<=y.aK/\y.aK<=64):a_ (l++[y]) n:=λi b=>by
 rw[AW,List.length_singleton] at b;by_cases g:i<l.length
 ·have s:=h i g;have e:(l++[y])[i]'(by omega)=l[i]:=yCb g;rw[e];refine ⟨?_,s.lt,s.lo,s.hi⟩;have:JZ ((l++[y]).map (·.Node)) i=JZ (l.map (·.Node)) i:=by
   cases i with
   |zero=>rfl
   |succ i=>grind [rp]
  rw[this];exact s.up
 ·have d:i=l.length:=by omega
  subst d;have e:(l++[y])[l.length]'(by simp)=y:=by simp
  rw[e];refine ⟨?_,a.2,hm.1,hm.2⟩;cases f:l.length with
  |zero=>show (-1:Int)<y.Node;omega
  |succ i=>grind [rp]
section
variable{F:List aC}{l:List Int}{need:aC}(hP:pj F l)(hR:mT l F.length)(hn:aL need)(hz:need≠bN)
include hP hR hn hz
structure OL (F:List aC) (need:aC) (l:List Int) (x:Int×List cW) (many:Int):Prop where
 shares:a_ x.2 F.length
 mem:∀y∈x.2,y.Node∈l/\y.aK<=dG (kk F y.Node) need
 UP:x.1+lT x.2=many
 left:x.1=if many<=cN F l need then 0 else many-cN F l need
theorem Py{many:Int}(hm:1<=many)(i:Nat):OL F need (l.take i) (sm F need (l.take i) many) many:=by
 induction i with
 |zero=>refine ⟨λi h=>by grind [sm],λy a=>by grind [sm],by simp[sm,lT],?_⟩;simp only[sm,List.take_zero,List.foldl_nil,cN,List.map_nil,List.sum_nil];omega
 |succ i ih=>
  by_cases d:i<l.length
  ·have c:=oN hP hn (bE d);have st:=ut hP hn hz d many;have rs:=yi hP hn hz d;have up:∀n∈l.take i,n<l[i]:=λn e=>by
    obtain ⟨j,hj,rfl⟩:=NF.1 e;rw[BY] at hj;rw[Ss];have:∀m,j<m->∀(hm:m<l.length),l[j]<l[m]:=by
     intro m;induction m with
     |zero=>omega
     |succ m g=>
      intro k hm;have s:=(hR (m+1) hm).1
      grind [qw]
    grind
   have b:∀n,n∈l.take (i+1)↔n∈l.take i∨n=l[i]:=λn=>by rw[Fc d,mQ,Bl]
   have p:=ih.left;have r:=yA hP hn hz (i:=i);rw[st];generalize sm F need (l.take i) many=x at *;have t:0<=x.1:=by omega
   unfold ZJ;by_cases q:Gn x.1 (dG (kk F l[i]) need)=0
   ·rw[if_pos q];refine ⟨ih.shares,λy a=>⟨(b _).2 (.inl (ih.mem y a).1),(ih.mem y a).2⟩,ih.UP,?_⟩
    grind [Gn]
   ·rw[if_neg q];have o:=hP.node _ (bE d);have f:1<=Gn x.1 (dG (kk F l[i]) need)/\Gn x.1 (dG (kk F l[i]) need)<=64/\Gn x.1 (dG (kk F l[i]) need)<=dG (kk F l[i]) need:=by
     unfold Gn at q ⊢;omega
    refine ⟨Jm ih.shares (λy a=>up _ (ih.mem y a).1) o ⟨f.1,f.2.1⟩,λy a=>?_,?_,?_⟩
    ·rcases mQ.1 a with a | a
     ·exact ⟨(b _).2 (.inl (ih.mem y a).1),(ih.mem y a).2⟩
     simp_all
    ·grind [OL.UP,lT]
    grind [Gn]
  grind [List.take_of_length_le]
theorem Uo{many:Int}(h:(BU F l many need).2=true):a_ (BU F l many need).1 F.length/\lT (BU F l many need).1=many/\(∀y∈(BU F l many need).1,y.Node∈l)/\∀(n:Nat)(hn:n<F.length),xe (mulR (dM (BU F l many need).1 n) need) F[n]∨dM (BU F l many need).1 n=0:=by
 obtain ⟨m,u⟩:=AD.1 h;have P:=Py hP hR hn hz m l.length;rw[yh] at P;have e:BU F l many need=((sm F need l many).2,true):=by unfold BU;simp_all
 rw[e];have z:=P.left;rw[if_pos u] at z;refine ⟨P.shares,by grind [OL.UP],λy f=>(P.mem y f).1,λn p=>?_⟩;dsimp only;by_cases g:∃y∈(sm F need l many).2,y.Node=(n:Int)
 ·left;obtain ⟨y,f,v⟩:=g;obtain ⟨m1,r⟩:=P.mem y f;obtain ⟨i,x,rfl⟩:=km f;have o:=JF P.shares x;rw[v] at o m1 r;have A:kk F (n:Int)=F[n]:=zP p;have t:=hP.XT _ m1;rw[A] at r t;have k:=vX t hn;rw[o];have d:∀a b:Int,(a,b)∈Fa F[n] need->0<=b->(sm F need l many).2[i].aK * b<=a:=λa b E G=>by
   have m:=k.fit _ E;dsimp only at m;have:(sm F need l many).2[i].aK * b<=dG F[n] need * b:=yAQ r G;omega
  intro c;rw[AP]
  match c with
  |0=>exact d _ _ (by simp[Fa];exact .inl ⟨rfl,rfl⟩) hn.Fy.1
  |1=>exact d _ _ (by simp[Fa];exact .inr (.inl ⟨rfl,rfl⟩)) hn.mem.1
  |2=>exact d _ _ (by simp[Fa];exact .inr (.inr (.inl ⟨rfl,rfl⟩))) hn.Ir.1
  |_+3=>exact d _ _ (by simp[Fa];exact .inr (.inr (.inr ⟨rfl,rfl⟩))) hn.Ka.1
 grind [zz]
end
def Cd(q:iE)(u:Ba):iE:={ q with L:=q.L++[u] }
open Classical in
theorem SI(q:iE)(u:Ba)(k t:Int):bC (Cd q u) k t=if DW q.az k t then bN else fj (fj (kk q.S.am k) (aZ q.L k t)) (jN u k t):=by
 unfold bC Cd;dsimp only;by_cases h:DW q.az k t
 ·simp_all
 ·rw[if_neg h,if_neg h,nB,Gw]
theorem mulR_le{n:Int}{need v:aC}(hn:0<=n)(a:aL need)(h:xe (mulR n need) v∨n=0)(b:aL v):xe (mulR n need) v:=by
 rcases h with h | h
 ·exact h
 ·intro c
  grind [vB,AP]
theorem SE{nodes:List (List bP)}{q:iE}{L:Nat}(hL:L<=200)(hq:qK q)(hp:PR nodes q L){cT a:Int}{sh:List cW}{need:aC}(hs:a_ sh q.S.am.length)(hn:aL need)(hw:1<=a/\a<=65536)(A:q.aX<=cT)(Y:cT<=1099511627776)
  (d:∀(k:Nat)(h:k<q.S.am.length) t,cT<=t->t<cT+a->xe (mulR (dM sh k) need) (bC q k t)) :
  ∃b,zcd 5000 nodes cT sh need a q.aX=some (b,0)/\PR b (Cd q { bJ:=cT,To:=cT+a,ay:=need,ae:=sh }) (L+2):=by
 have i:=hp.len;have nn:=hq.spec.nodes.hi;have E:=hq.now;have sl:sh.length<=300:=by have:=qR hs (by omega);omega
 obtain ⟨Z,G,K⟩:=oM sh nodes.length sl;have:=K.2 (by simp_all);subst this;obtain ⟨r2,M,N⟩:=Tu need;have:=N.2 hn;subst this;obtain ⟨r,e,O,P,p⟩:=Bo (by omega) hp.cT (by omega) (by simp_all) sl hn A (show cT<cT+a by omega) (by omega) λk hk t v ta tb Q=>by
  rw[(hp.iff hk (by omega)).1 Q]
  grind
 refine ⟨r.1,?_,?_⟩
 ·unfold zcd;rw[fQ,if_neg (by simp_all),G,aD,if_neg (by simp),M,aD];have R:decide (a<1)=false:=by simp_all
  have U:decide (a > 65536)=false:=by simp_all
  dsimp only;rw[R,U,if_neg (by simp),wr (x:=cT+a) (by omega) (by omega),e,aD,O]
 ·refine ⟨by rw[P,i];rfl,⟨λk hk=>?_,λk hk W=>?_⟩,λk hk t X=>?_⟩
  ·have T:=p k (by omega) hk;exact ⟨T.ok,by have:=T.len;have:=(hp.cT.each k (by omega)).2;omega⟩
  ·have T:=p k (by omega) hk;have z:=(hp.cT.each k (by omega)).1.ne;rw[T.first z W,hp.cT.first k (by omega) z];rfl
  ·have n:k<nodes.length:=by omega
   have T:=p k n hk;have u:q.aX<=t:=X;have v:=T.val t _ (hp.val k n t u);rw[SI];by_cases g:cT<=t/\t<cT+a
   ·rw[if_pos g] at v;have y:jN { bJ:=cT,To:=cT+a,ay:=need,ae:=sh } k t=mulR (dM sh k) need:=by unfold jN;simp_all
    rw[y];by_cases m:DW q.az k t
    ·rw[if_pos m];have o:bC q k t=bN:=by unfold bC;simp_all
     have f:=d k (by omega) t g.1 g.2;rw[o] at f v;have:fj bN (mulR (dM sh k) need)=bN:=dU λc=>by
      have h2:=f c;have h3:=gU (qY hs k) (vB.1 hn c)
      grind [B_,NH,AP]
     simp_all
    ·rw[if_neg m];have o:bC q k t=fj (kk q.S.am k) (aZ q.L k t):=by unfold bC;simp_all
     simp_all
   ·rw[if_neg g] at v;have y:jN { bJ:=cT,To:=cT+a,ay:=need,ae:=sh } k t=bN:=by unfold jN;grind
    rw[y];by_cases m:DW q.az k t
    ·rw[if_pos m];have o:bC q k t=bN:=by unfold bC;simp_all
     simp_all
    ·rw[if_neg m];have o:bC q k t=fj (kk q.S.am k) (aZ q.L k t):=by unfold bC;simp_all
     rw[o] at v;have:fj (fj (kk q.S.am k) (aZ q.L k t)) bN=fj (kk q.S.am k) (aZ q.L k t):=dU λc=>by simp only[B_,NH];omega
     simp_all
end Go.Plain
end
section
namespace Go.Plain
open Go.Abs
abbrev K3:=Int×Int×Int
def Sj(u v:K3):Prop:=u.1<v.1∨(u.1=v.1/\(u.2.1<v.2.1∨(u.2.1=v.2.1/\u.2.2<v.2.2)))
instance (u v:K3):Decidable (Sj u v):=by unfold Sj;infer_instance
theorem cmp1{N:Nat}(a b:Int):fy N a b=some (if a<b then -1 else if a > b then 1 else 0):=by
 simp only[fy,cmp_isNaN_int,Option.bind_some];simp;split
 ·rfl
 ·split <;> rfl
theorem cmp3{N:Nat}(E:4<N)(u v:K3):bL (ZI N ([u.1,u.2.1,u.2.2]:List Int) ([v.1,v.2.1,v.2.2]:List Int)) λr=>(r<0↔Sj u v):=by
 obtain ⟨N,rfl⟩:∃M,N=M+5:=⟨N-5,by omega⟩;obtain ⟨a,b,c⟩:=u;obtain ⟨d,e,f⟩:=v;unfold ZI;have o:i64.wrap (0+1)=1:=rfl;have w1:i64.wrap (1+1)=2:=rfl;have w2:i64.wrap (2+1)=3:=rfl;have p:∀x y z:Int,aB [x,y,z] 0=some x:=λ_ _ _=>rfl;have t:∀x y z:Int,aB [x,y,z] 1=some y:=λ_ _ _=>rfl;have A:∀x y z:Int,aB [x,y,z] 2=some z:=λ_ _ _=>rfl;simp only[bB,List.length_cons,List.length_nil,cmp1,Option.bind_some,o,w1,w2,p,t,A,Sj];simp;by_cases g:a<d
 ·rw[if_pos g];simp[aY];omega
 ·rw[if_neg g];by_cases h:d<a
  ·rw[if_pos h];simp[aY];omega
  ·rw[if_neg h];by_cases i:b<e
   ·rw[if_pos i];simp[aY];omega
   ·rw[if_neg i];by_cases k:e<b
    ·rw[if_pos k];simp[aY];omega
    ·rw[if_neg k];by_cases m:c<f
     ·rw[if_pos m];simp[aY];omega
     ·rw[if_neg m];by_cases n:f<c
      ·rw[if_pos n];simp[aY];omega
      ·rw[if_neg n];simp[aY];omega
def RL(p:List K3)(x:Int):K3:=p.getD x.toNat (0,0,0)
def Sq(p:List K3)(x:Int):Prop:=0<=x/\x<p.length
theorem XW{p:List K3}{x:Int}(h:Sq p x):aB p x=some (RL p x):=by obtain ⟨a,e⟩:=FJ h.1 h.2;rw[e,RL,Zt,eH a];rfl
theorem CG{N:Nat}(d:4<N){p:List K3}{x y:Int}(e:Sq p x)(f:Sq p y) :
  bL ((aB p x).bind λa=>(aB p y).bind λb=>(ZI N ([a.1,a.2.1,a.2.2]:List Int) ([b.1,b.2.1,b.2.2]:List Int)).bind λr=>some r) λr=>(r<0↔Sj (RL p x) (RL p y)):=by
 rw[XW e,XW f,aD,aD];exact (cmp3 d _ _).bind λr g=>aY.2 g
theorem dQ{α:Type}{L R:List α}{y:α}{i:Int}(h:i=L.length):aB (L++y::R) i=some y:=by subst h;rw[bW (by simp)];simp
theorem jv{α:Type}{L R:List α}{y z:α}{i:Int}(h:i=L.length):(L++y::R).set i.toNat z=L++z::R:=by subst h;simp
theorem Bj{x y:Int}(h:x=y)(a:-9000000<=y)(b:y<9000000):i64.wrap x=y:=by rw[wr (by omega) (by omega)];exact h
theorem up_ok{N:Nat}{L V R:List Int}{y:Int}{k E:Int}(hk:k=L.length)(t:E=L.length+V.length)(O:V.length<N)(hs:(L++y::V++R).length<=1000) :
  bB (λh (d:Int×List Int)=>
     if (decide (d.1<E))=true then
      (aB d.2 (i64.wrap (d.1+1))).bind λe=>
      (aB d.2 d.1).bind λi=>
      (aB d.2 d.1).bind λu=>
      (aB (d.2.set d.1.toNat e) (i64.wrap (d.1+1))).bind λz=>
      h ((i64.wrap (d.1+1)),((d.2.set d.1.toNat e).set (i64.wrap (d.1+1)).toNat i))
     else
      some d.2) N (k,L++y::V++R)=some (L++V++y::R):=by
 apply bL.eq;simp only[AW,List.length_cons] at hs;refine lpM (I:=λx=>∃b g,x=((b.length:Int),b++y::g++R)/\b++g=L++V/\E=b.length+g.length) (m:=λx=>(E-x.1).toNat) (λx f A G=>?_) ⟨L,V,by rw[hk],rfl,t⟩ (by omega);obtain ⟨b,g,rfl,n,o⟩:=A;have p:=Ja List.length n;simp only[AW] at p;cases g with
 |nil=>simp only[List.length_nil] at o;rw[if_neg (by simp;omega),aY,<-n];simp
 |cons v a=>
  simp only[List.length_cons] at o p;have w:i64.wrap ((b.length:Int)+1)=((b++[y]).length:Nat):=Bj (by simp) (by simp;omega) (by simp;omega);have K:b++y::v::a++R=(b++[y])++v::(a++R):=by simp
  have r:b++y::v::a++R=b++y::(v::a++R):=by simp
  have M:b++v::(v::a++R)=(b++[v])++v::(a++R):=by simp
  simp only;rw[if_pos (by simp;omega),w,show aB (b++y::v::a++R) ((b++[y]).length:Nat)=some v from by rw[K];exact dQ rfl,aD,
   show aB (b++y::v::a++R) (b.length:Int)=some y from by rw[r];exact dQ rfl,Option.bind_some,Option.bind_some,r,jv rfl,M,dQ (by simp),Option.bind_some,jv (by simp)]
  refine G _ ⟨b++[v],a,by simp,by rw[<-n];simp,by simp;omega⟩ (by simp;omega)
theorem dn_ok{N:Nat}{L V R:List Int}{y:Int}{k E:Int}(hk:k=L.length+V.length)(G:E=L.length)(K:V.length<N)(hs:(L++V++y::R).length<=1000) :
  bB (λi (a:Int×List Int)=>
      if (decide (a.1 > E))=true then
       (aB a.2 (i64.wrap (a.1-1))).bind λe=>
       (aB a.2 a.1).bind λn=>
       (aB a.2 a.1).bind λp=>
       (aB (a.2.set a.1.toNat e) (i64.wrap (a.1-1))).bind λr=>
       i ((i64.wrap (a.1-1)),((a.2.set a.1.toNat e).set (i64.wrap (a.1-1)).toNat n))
      else
       some a.2) N (k,L++V++y::R)=some (L++y::V++R):=by
 apply bL.eq;simp only[AW,List.length_cons] at hs;refine lpM (I:=λx=>∃g d,x=(((L++g).length:Int),L++g++y::d)/\g++d=V++R) (m:=λx=>(x.1-E).toNat) (λx f t u=>?_) ⟨V,R,by rw[hk];simp,rfl⟩ (by simp;omega);obtain ⟨g,d,rfl,h⟩:=t;have o:=Ja List.length h;simp only[AW] at o;rcases List.eq_nil_or_concat g with rfl | ⟨b,v,rfl⟩
 ·rw[if_neg (by simp;omega),aY];simp at h;rw[h];simp
 ·simp only[yBR,AW,List.length_cons,List.length_nil] at o h ⊢;have w:i64.wrap (((L.length+(b.length+(0+1)):Nat):Int)-1)=((L++b).length:Nat):=Bj (by simp;omega) (by simp;omega) (by simp;omega);have z:L++(b++[v])++y::d=(L++b)++v::(y::d):=by simp
  have M:L++(b++[v])++y::d=(L++(b++[v]))++y::d:=rfl;have A:(L++(b++[v]))++v::d=(L++b)++v::(v::d):=by simp
  rw[if_pos (by simp;omega),w,show aB (L++(b++[v])++y::d) ((L++b).length:Nat)=some v from by rw[z];exact dQ rfl,aD,
   dQ (by simp),Option.bind_some,Option.bind_some,jv (by simp),A,dQ (by simp),Option.bind_some,jv (by simp)]
  refine u _ ⟨b,v::d,by simp,by rw[<-h];simp⟩ (by simp;omega)
theorem Yj{N:Nat}{L U M V R:List Int}{a b n:Int}(ha:a=L.length)(hb:b=L.length+U.length+M.length)(hn:n=U.length)(E:V.length=U.length)(hN:U.length<N)(hs:(L++U++M++V++R).length<=1000) :
  bB (λr (d:Int×List Int)=>
          if (decide (d.1<n))=true then
           (aB d.2 (i64.wrap (b+d.1))).bind λp=>
           (aB d.2 (i64.wrap (a+d.1))).bind λt=>
           (aB d.2 (i64.wrap (a+d.1))).bind λG=>
           (aB (d.2.set (i64.wrap (a+d.1)).toNat p) (i64.wrap (b+d.1))).bind λK=>
           r ((i64.wrap (d.1+1)),((d.2.set (i64.wrap (a+d.1)).toNat p).set (i64.wrap (b+d.1)).toNat t))
          else
           some d.2) N (0,L++U++M++V++R)=some (L++V++M++U++R):=by
 apply bL.eq;simp only[AW] at hs;refine lpM (I:=λx=>∃h k i o,x=((U.length:Int)-k.length,h++k++i++o++R)/\h++o++i++k++R=L++V++M++U++R/\o.length=k.length/\k.length<=U.length/\(h.length:Int)=a+U.length-k.length/\(h.length:Int)+k.length+i.length=b+U.length-k.length)
  (m:=λx=>(n-x.1).toNat) (λx f O P=>?_) ⟨L,U,M,V,by simp,rfl,E,by omega,by omega,by omega⟩ (by omega)
 obtain ⟨h,k,i,o,rfl,y,z,Q,T,W⟩:=O;cases k with
 |nil=>
  cases o with
  |nil=>rw[if_neg (by simp;omega),aY,<-y]
  |cons=>simp at z
 |cons u e=>
  cases o with
  |nil=>simp at z
  |cons v g=>
   simp only[List.length_cons] at z Q T W;have X:=Ja List.length y;simp only[AW,List.length_cons] at X;have Y:i64.wrap (a+((U.length:Int)-((u::e).length:Nat)))=(h.length:Nat):=Bj (by simp;omega) (by omega) (by omega);have Z:i64.wrap (b+((U.length:Int)-((u::e).length:Nat)))=((h++u::e++i).length:Nat):=Bj (by simp;omega) (by simp;omega) (by simp;omega);have wc:i64.wrap (((U.length:Int)-((u::e).length:Nat))+1)=(U.length:Int)-(e.length:Nat):=Bj (by simp;omega) (by omega) (by omega);have e1:h++u::e++i++v::g++R=(h++u::e++i)++v::(g++R):=by simp
   have A:h++u::e++i++v::g++R=h++u::(e++i++v::g++R):=by simp
   have e3:h++v::(e++i++v::g++R)=(h++v::e++i)++v::(g++R):=by simp
   simp only;rw[if_pos (by simp;omega),Y,Z,wc,show aB (h++u::e++i++v::g++R) ((h++u::e++i).length:Nat)=some v from by rw[e1];exact dQ rfl,aD,
    show aB (h++u::e++i++v::g++R) (h.length:Nat)=some u from by rw[A];exact dQ rfl,Option.bind_some,Option.bind_some,A,jv rfl,e3,dQ (by simp),Option.bind_some,jv (by simp)]
   refine P _ ⟨h++[v],e,i++[u],g,by simp,by rw[<-y];simp,by omega,by omega,by simp;omega,by simp;omega⟩ (by simp;omega)
theorem Xu{R:Type}{b:(Int×Int->Option R)->Int×Int->Option R}{Q:R->Prop}{lo a N:Nat}(G:Nat->Prop)(h:lo<=a)(v:a<N)
  (hs:∀f (s r:Nat),lo<=s->s<r->r<=a->(G ((s+r) / 2)->bL (f (((((s+r) / 2:Nat):Int)+1),(r:Int))) Q)->(¬G ((s+r) / 2)->bL (f ((s:Int),(((s+r) / 2:Nat):Int))) Q)->bL (b f ((s:Int),(r:Int))) Q)
  (o:∀f (s:Nat),lo<=s->s<=a->(s=lo∨G (s-1))->(s=a∨¬G s)->bL (b f ((s:Int),(s:Int))) Q):bL (bB b N ((lo:Int),(a:Int))) Q:=by
 refine lpM (I:=λx=>∃s r:Nat,x=((s:Int),(r:Int))/\lo<=s/\s<=r/\r<=a/\(s=lo∨G (s-1))/\(r=a∨¬G r)) (m:=λx=>(x.2-x.1).toNat) (λx f p i=>?_) ⟨lo,a,rfl,by omega,h,by omega,.inl rfl,.inl rfl⟩ (by simp;omega);obtain ⟨s,r,rfl,d,t,e,k,n⟩:=p;rcases Xh t with u | rfl
 ·refine hs f s r d u e (λg=>i _ ⟨(s+r) / 2+1,r,by simp,by omega,by omega,e,.inr (by simpa using g),n⟩ (by simp;omega)) (λg=>i _ ⟨s,(s+r) / 2,rfl,d,by omega,by omega,k,.inr g⟩ (by simp;omega))
 ·exact o f s d e k n
end Go.Plain
end
section
namespace Go.Plain
open Go.Abs
theorem pG{R:Type}{a b:Nat}{o:Option R}(h:a=b):BC a b o=o:=by subst h;simp[BC]
theorem rot_ok {N:Nat} {L U V R:List Int} {m i j:Int} (hm:m=L.length+U.length) (hi:i=U.length) (hj:j=V.length) (hU:0<U.length) (hV:0<V.length) (hN:U.length+V.length<N) (hs:(L++U++V++R).length≤1000) :
    bB (fun u (d:Int×Int×List Int)=>
               if (d.1 != d.2.1)=true then
                 if (decide (d.1 > d.2.1))=true then
                   (
                     bB (fun P (k:Int×List Int)=>
                       if (decide (k.1<d.2.1))=true then
                         (aB k.2 (i64.wrap (m+k.1))).bind fun v=>
                         (aB k.2 (i64.wrap ((i64.wrap (m-d.1))+k.1))).bind fun Q=>
                         (aB k.2 (i64.wrap ((i64.wrap (m-d.1))+k.1))).bind fun aa=>
                         (aB (k.2.set (i64.wrap ((i64.wrap (m-d.1))+k.1)).toNat v) (i64.wrap (m+k.1))).bind fun ab=>
                         P ((i64.wrap (k.1+1)),((k.2.set (i64.wrap ((i64.wrap (m-d.1))+k.1)).toNat v).set (i64.wrap (m+k.1)).toNat Q))
                       else
                         some k.2) N (0,d.2.2)).bind fun y=>
                   BC d.2.2.length y.length <|
                   u ((i64.wrap (d.1-d.2.1)),d.2.1,y)
                 else
                   (
                     bB (fun T (o:Int×List Int)=>
                       if (decide (o.1<d.1))=true then
                         (aB o.2 (i64.wrap ((i64.wrap ((i64.wrap (m+d.2.1))-d.1))+o.1))).bind fun z=>
                         (aB o.2 (i64.wrap ((i64.wrap (m-d.1))+o.1))).bind fun W=>
                         (aB o.2 (i64.wrap ((i64.wrap (m-d.1))+o.1))).bind fun ad=>
                         (aB (o.2.set (i64.wrap ((i64.wrap (m-d.1))+o.1)).toNat z) (i64.wrap ((i64.wrap ((i64.wrap (m+d.2.1))-d.1))+o.1))).bind fun af=>
                         T ((i64.wrap (o.1+1)),((o.2.set (i64.wrap ((i64.wrap (m-d.1))+o.1)).toNat z).set (i64.wrap ((i64.wrap ((i64.wrap (m+d.2.1))-d.1))+o.1)).toNat W))
                       else
                         some o.2) N (0,d.2.2)).bind fun A=>
                   BC d.2.2.length A.length <|
                   u (d.1,(i64.wrap (d.2.1-d.1)),A)
               else
                 (
                   bB (fun X (p:Int×List Int)=>
                     if (decide (p.1<d.1))=true then
                       (aB p.2 (i64.wrap (m+p.1))).bind fun E=>
                       (aB p.2 (i64.wrap ((i64.wrap (m-d.1))+p.1))).bind fun Y=>
                       (aB p.2 (i64.wrap ((i64.wrap (m-d.1))+p.1))).bind fun ak=>
                       (aB (p.2.set (i64.wrap ((i64.wrap (m-d.1))+p.1)).toNat E) (i64.wrap (m+p.1))).bind fun an=>
                       X ((i64.wrap (p.1+1)),((p.2.set (i64.wrap ((i64.wrap (m-d.1))+p.1)).toNat E).set (i64.wrap (m+p.1)).toNat Y))
                     else
                       some p.2) N (0,d.2.2)).bind fun Z=>
                 some Z) N (i,j,L++U++V++R)=some (L++V++U++R):=by
  apply bL.eq
  simp only [AW] at hs
  refine lpM (I:=fun x=>∃r h g t,x=((h.length:Int),(g.length:Int),r++h++g++t)∧r++g++h++t=L++V++U++R∧m=r.length+h.length∧0<h.length∧0<g.length∧h.length≤U.length∧g.length≤V.length) (m:=fun x=>(x.1+x.2.1).toNat) (fun x f hI hr=>?_) ⟨L,U,V,R,by rw [hi,hj],rfl,hm,hU,hV,by omega,by omega⟩ (by simp; omega)
  obtain ⟨r,h,g,t,rfl,O,h2,h3,h4,h5,h6⟩:=hI
  have hl:=Ja List.length O
  simp only [AW] at hl
  have wa:i64.wrap (m-(h.length:Int))=(r.length:Int):=Bj (by omega) (by omega) (by omega)
  simp only [wa]
  by_cases e:h.length=g.length
  · rw [if_neg (by simp [e])]
    have:=Yj (N:=N) (L:=r) (U:=h) (M:=[]) (V:=g) (R:=t) (a:=r.length) (b:=m) (n:=h.length) rfl (by simp; omega) rfl e.symm (by omega) (by simp; omega)
    simp only [DM] at this
    rw [this,Option.bind_some,aY,O]
  · rw [if_pos (by simp; omega)]
    by_cases e2:g.length<h.length
    · rw [if_pos (by simp; omega)]
      have G:h=h.take g.length++h.drop g.length:=(NL _ _).symm
      have:=Yj (N:=N) (L:=r) (U:=h.take g.length) (M:=h.drop g.length) (V:=g) (R:=t) (a:=r.length) (b:=m) (n:=g.length) rfl (by simp; omega) (by simp; omega) (by simp; omega) (by simp; omega) (by simp; omega)
      rw [BM r (h.take _),←G] at this
      rw [this,Option.bind_some,pG (by simp; omega),show i64.wrap ((h.length:Int)-g.length)=((h.drop g.length).length:Int) from Bj (by simp; omega) (by omega) (by simp; omega)]
      refine hr _ ⟨r++g,h.drop g.length,h.take g.length,t,by simp; omega,?_,by simp; omega,by simp; omega,by simp; omega,by simp; omega,by simp; omega⟩ (by simp; omega)
      rw [←O]
      conv=>rhs; rw [G]
      simp
    · rw [if_neg (by simp; omega)]
      have K:g=g.take (g.length-h.length)++g.drop (g.length-h.length):=(NL _ _).symm
      have wb:i64.wrap (m+(g.length:Int))=m+g.length:=Bj rfl (by omega) (by omega)
      have wc:i64.wrap (m+(g.length:Int)-h.length)=m+g.length-h.length:=Bj rfl (by omega) (by omega)
      have:=Yj (N:=N) (L:=r) (U:=h) (M:=g.take (g.length-h.length)) (V:=g.drop (g.length-h.length)) (R:=t) (a:=r.length) (b:=m+g.length-h.length) (n:=h.length) rfl (by simp; omega) rfl (by simp; omega) (by omega) (by simp; omega)
      rw [BM (r++h) (g.take _),←K] at this
      simp only [wb,wc]
      rw [this,Option.bind_some,pG (by simp; omega),show i64.wrap ((g.length:Int)-h.length)=((g.take (g.length-h.length)).length:Int) from Bj (by simp; omega) (by omega) (by simp; omega)]
      refine hr _ ⟨r,g.drop (g.length-h.length),g.take (g.length-h.length),h++t,by simp; omega,?_,by simp; omega,by simp; omega,by simp; omega,by simp; omega,by simp; omega⟩ (by simp; omega)
      rw [←O]
      conv=>rhs; rw [K]
      simp
end Go.Plain
end
section
namespace Go.Plain
open Go.Abs
def Bt(p:List K3)(u v:Int):Prop:=¬Sj (RL p v) (RL p u)
def yD(p:List K3)(l:List Int):Prop:=l.Pairwise (Bt p)
theorem Bt.trans{p:List K3}{a b c:Int}(h:Bt p a b)(i:Bt p b c):Bt p a c:=by unfold Bt Sj at *;omega
theorem Bt.refl{p:List K3}{a:Int}:Bt p a a:=by unfold Bt Sj;omega
theorem Sj.le{p:List K3}{a b:Int}(h:Sj (RL p a) (RL p b)):Bt p a b:=by unfold Bt Sj at *;omega
theorem Sm{p:List K3}{l:List Int}(h:yD p l){i j:Nat}(a:i<=j)(hj:j<l.length):Bt p (l.getD i 0) (l.getD j 0):=by
 rcases Xh a with b | rfl
 ·have:=yAZ.1 h i j (by omega) hj b;simpa[Zt,hj,show i<l.length by omega] using this
 ·exact .refl
theorem Dc{p:List K3}{l:List Int}(h:yD p l){t:Nat}(f:t<=l.length){y:Int}(a:t=0∨Bt p (l.getD (t-1) 0) y):∀u∈l.take t,Bt p u y:=λu b=>by
 obtain ⟨i,d,rfl⟩:=km b;simp only[BY] at d;rcases a with rfl | a
 ·omega
 ·have:=Sm h (i:=i) (j:=t-1) (by omega) (by omega);rw[Ss];have e:l.getD i 0=l[i]'(by omega):=by simp[Zt,show i<l.length by omega]
  rw[<-e];exact this.trans a
theorem Dd{p:List K3}{l:List Int}(h:yD p l){t:Nat}{y:Int}(a:l.length<=t∨Bt p y (l.getD t 0)):∀u∈l.drop t,Bt p y u:=λu b=>by
 obtain ⟨i,d,rfl⟩:=km b;simp only[yBK] at d;rcases a with a | a
 ·omega
 ·have:=Sm h (i:=t) (j:=t+i) (by omega) (by omega);rw[yBT];have e:l.getD (t+i) 0=l[t+i]'(by omega):=by simp[Zt,show t+i<l.length by omega]
  rw[<-e];exact a.trans this
theorem yD.LN{p:List K3}{l:List Int}(h:yD p l)(t:Nat):yD p (l.take t):=List.Pairwise.sublist (List.take_sublist _ _) h
theorem yD.MA{p:List K3}{l:List Int}(h:yD p l)(t:Nat):yD p (l.drop t):=List.Pairwise.sublist (List.drop_sublist _ _) h
theorem Sl{p:List K3}{l:List Int}(h:yD p l){t:Nat}(f:t<=l.length){y:Int}(g:t=0∨Bt p (l.getD (t-1) 0) y)(i:l.length<=t∨Bt p y (l.getD t 0)):yD p (l.take t++y::l.drop t):=by
 have a:=Dc h f g;have b:=Dd h i;refine NR.2 ⟨h.LN t,yBm.2 ⟨b,h.MA t⟩,λu e v d=>?_⟩;rcases gn.1 d with rfl | d
 ·exact a u e
 ·exact (a u e).trans (b v d)
theorem jL{L B R:List Int}{t k:Nat}(hk:k=L.length+t)(a:t<B.length):(L++B++R).getD k 0=B.getD t 0:=by subst hk;simp only[Zt];rw[BM,NG (by omega),HI (by omega),yB5]
theorem Iu{l:List Int}{k:Nat}{i:Int}(h:i=(k:Int))(hk:k<l.length):aB l i=some (l.getD k 0):=by subst h;rw[bW hk];simp[Zt,hk]
theorem CL{p:List K3}{l:List Int}(h:∀x∈l,Sq p x){k:Nat}(hk:k<l.length):Sq p (l.getD k 0):=by
 have:l.getD k 0=l[k]:=by simp[Zt,hk]
 rw[this];exact h _ (bE hk)
theorem Dr{X R:Type}{K:X->Option R}{J:(X->Option R)->Option R}{Q:R->Prop}(KM:X->Prop)(a:∀k,(∀x,KM x->bL (k x) Q)->bL (J k) Q)(b:∀x,KM x->bL (K x) Q):bL (jn K J) Q:=a K b
set_option maxHeartbeats 4000000 in
theorem LL{p:List K3}:∀(N:Nat)(P A B S:List Int)(a m b:Int),A≠[]->B≠[]->(P++A++B++S).length<=1000->(∀x∈P++A++B++S,Sq p x)->A.length+B.length+1100<=N ->
  a=P.length->m=P.length+A.length->b=P.length+A.length+B.length ->
  bL (za6 N (P++A++B++S) a m b p) λr=>∃C,r=P++C++S/\C.Perm (A++B)/\(yD p A->yD p B->yD p C):=by
 intro N;induction N with
 |zero=>intro P A B S a m b _ _ _ _ h;omega
 |succ N ih=>
  intro P A B S a m b hA hB hl M hN ha hm hb;have a1:0<A.length:=UY.2 hA;have a2:0<B.length:=UY.2 hB;have ak:=hl;simp only[AW] at ak;show bL (if (i64.wrap (m-a) == 1)=true then _ else _) _;rw[bo];have w1:i64.wrap (m-a)=A.length:=Bj (by omega) (by omega) (by omega);have w2:i64.wrap (b-m)=B.length:=Bj (by omega) (by omega) (by omega);rw[w1];refine ⟨λU=>?_,λU=>?_⟩
  ·
   obtain ⟨y,rfl⟩:∃y,A=[y]:=by
    match A,U with
    |[y],_=>exact ⟨y,rfl⟩
    |[],U=>simp at U
    |_::_::_,U=>simp at U;omega
   have hy:aB (P++[y]++B++S) a=some y:=by rw[show P++[y]++B++S=P++y::(B++S) by simp];exact dQ ha
   have an:Sq p y:=M y (by simp);simp only[List.length_cons,List.length_nil] at hm hb ak hN;obtain ⟨z,rfl⟩:∃z:Nat,m=z:=⟨P.length+1,by omega⟩;obtain ⟨Q,rfl⟩:∃Q:Nat,b=Q:=⟨P.length+1+B.length,by omega⟩;refine Xu (λh=>Sj (RL p ((P++[y]++B++S).getD h 0)) (RL p y)) (by omega) (by omega) (λf s r W X o hg hn=>?_) (λf s W X o E=>?_)
   ·have O:(s+r) / 2<(P++[y]++B++S).length:=by simp;omega
    simp only;rw[if_pos (by simp;omega),mid (by omega),Iu rfl O,aD,hy,aD,Bj (x:=(((s+r) / 2:Nat):Int)+1) rfl (by omega) (by omega)];refine (CG (by omega) (CL M O) an).bind λr T=>?_;rw[bo];exact ⟨λh=>hg (T.1 (by simpa using h)),λh=>hn λg=>h (by simpa using T.2 g)⟩
   ·simp only;rw[if_neg (by simp)];have ht:s-z<=B.length:=by omega
    have ax:B=B.take (s-z)++B.drop (s-z):=(NL _ _).symm;have e:P++[y]++B++S=P++y::B.take (s-z)++(B.drop (s-z)++S):=by simp only[BM,List.cons_append,List.nil_append];rw[<-BM (List.take _ _) (List.drop _ _) S,NL]
    rw[Bj (x:=(s:Int)-1) (y:=(P.length:Int)+(B.take (s-z)).length) (by simp;omega) (by omega) (by simp;omega)]
    conv in (P++[y]++B++S)=>rw[e]
    rw[up_ok ha rfl (by simp;omega) (by simp;omega),aY];refine ⟨B.take (s-z)++y::B.drop (s-z),by simp,?_,λ_ hb=>Sl hb ht ?_ ?_⟩
    ·conv=>rhs;rw[ax]
     exact List.perm_middle
    ·rcases o with o | o
     ·left;omega
     ·by_cases Y:s-z=0
      ·exact .inl Y
      ·right;rw[jL (L:=P++[y]) (B:=B) (R:=S) (t:=s-z-1) (by simp;omega) (by omega)] at o;exact o.le
    ·rcases E with E | E
     ·left;omega
     ·by_cases Y:B.length<=s-z
      ·exact .inl Y
      ·right;rw[jL (L:=P++[y]) (B:=B) (R:=S) (t:=s-z) (by simp;omega) (by omega)] at E;exact E
  ·rw[bo,w2];refine ⟨λh2=>?_,λh2=>?_⟩
   ·
    obtain ⟨y,rfl⟩:∃y,B=[y]:=by
     match B,h2 with
     |[y],_=>exact ⟨y,rfl⟩
     |[],U=>simp at U
     |_::_::_,U=>simp at U;omega
    have hy:aB (P++A++[y]++S) m=some y:=by rw[show P++A++[y]++S=(P++A)++y::S by simp];exact dQ (by simp;omega)
    have an:Sq p y:=M y (by simp);simp only[List.length_cons,List.length_nil] at hm hb ak hN;obtain ⟨K,rfl⟩:∃K:Nat,a=K:=⟨P.length,by omega⟩;obtain ⟨z,rfl⟩:∃z:Nat,m=z:=⟨P.length+A.length,by omega⟩;refine Xu (λh=>¬Sj (RL p y) (RL p ((P++A++[y]++S).getD h 0))) (by omega) (by omega) (λf s r W X o hg hn=>?_) (λf s W X o E=>?_)
    ·have O:(s+r) / 2<(P++A++[y]++S).length:=by simp;omega
     simp only;rw[if_pos (by simp;omega),mid (by omega),hy,aD,Iu rfl O,aD,Bj (x:=(((s+r) / 2:Nat):Int)+1) rfl (by omega) (by omega)];refine (CG (by omega) an (CL M O)).bind λr T=>?_;rw[bo];refine ⟨λh=>hg λg=>?_,λh=>hn λg=>?_⟩
     ·have:=T.2 g;simp at h;omega
     ·simp at h;exact g (T.1 h)
    ·simp only;rw[if_neg (by simp)];have ht:s-K<=A.length:=by omega
     have av:A=A.take (s-K)++A.drop (s-K):=(NL _ _).symm;have e:P++A++[y]++S=(P++A.take (s-K))++A.drop (s-K)++y::S:=by
      conv=>lhs;rw[av]
      simp
     conv in (P++A++[y]++S)=>rw[e]
     rw[dn_ok (by simp;omega) (by simp;omega) (by simp;omega) (by simp;omega),aY];refine ⟨A.take (s-K)++y::A.drop (s-K),by simp,?_,λhb _=>Sl hb ht ?_ ?_⟩
     ·conv=>rhs;rw[av]
      simp only[BM];exact List.Perm.append_left _ (yBS (l₁:=[y]))
     ·rcases o with o | o
      ·left;omega
      ·by_cases Y:s-K=0
       ·exact .inl Y
       ·right;rw[show P++A++[y]++S=P++A++([y]++S) by simp,jL (L:=P) (B:=A) (t:=s-K-1) (by omega) (by omega)] at o;exact o
     ·rcases E with E | E
      ·left;omega
      ·by_cases Y:A.length<=s-K
       ·exact .inl Y
       ·right;rw[show P++A++[y]++S=P++A++([y]++S) by simp,jL (L:=P) (B:=A) (t:=s-K) (by omega) (by omega)] at E;exact (Classical.not_not.1 E).le
   ·
    have av:2<=A.length:=by
     rcases si A.length 2 with h | h
     ·exact absurd (show ((A.length:Int) == 1)=true by simp;omega) U
     ·exact h
    have ax:2<=B.length:=by
     rcases si B.length 2 with h | h
     ·exact absurd (show ((B.length:Int) == 1)=true by simp;omega) h2
     ·exact h
    obtain ⟨K,rfl⟩:∃K:Nat,a=K:=⟨P.length,by omega⟩;obtain ⟨z,rfl⟩:∃z:Nat,m=z:=⟨P.length+A.length,by omega⟩;obtain ⟨Q,rfl⟩:∃Q:Nat,b=Q:=⟨P.length+A.length+B.length,by omega⟩;have ab:=mid (i:=K) (j:=Q) (by omega);obtain ⟨G,a0⟩:∃G,G=(K+Q) / 2:=⟨_,rfl⟩;rw[<-a0] at ab;simp only[ab];have wn:i64.wrap ((G:Int)+(z:Int))=((G+z:Nat):Int):=Bj (by simp) (by omega) (by omega);simp only[wn];have a5:(P++A++B++S).length=P.length+A.length+B.length+S.length:=by simp;omega
    refine Dr (λx=>∃lo hi:Nat,x=((lo:Int),(hi:Int))/\lo<=hi/\hi<=G/\hi<=z/\K<=lo/\G+z<=Q+lo/\(lo=K∨G+z=Q+lo)/\(hi=z∨hi=G)) (λk hk=>?_) ?_
    ·rw[bo];refine ⟨λh=>hk _ ⟨G+z-Q,G,?_,?_⟩,λh=>hk _ ⟨K,z,rfl,?_⟩⟩
     ·rw[Bj (x:=((G+z:Nat):Int)-(Q:Int)) (y:=((G+z-Q:Nat):Int)) (by simp at h;omega) (by omega) (by omega)]
     ·simp at h;omega
     ·simp at h;omega
    ·rintro _ ⟨lo,hi,rfl,q1,q2,q3,q4,q5,q6,q7⟩;refine Xu (λc=>¬Sj (RL p ((P++A++B++S).getD (G+z-1-c) 0)) (RL p ((P++A++B++S).getD c 0))) q1 (by omega) (λf s r W X o hg hn=>?_) (λf s W X o E=>?_)
     ·have O:(s+r) / 2<(P++A++B++S).length:=by omega
      have ad:G+z-1-(s+r) / 2<(P++A++B++S).length:=by omega
      have wp:i64.wrap (((G+z:Nat):Int)-1)=((G+z-1:Nat):Int):=Bj (by omega) (by omega) (by omega);simp only;rw[if_pos (by simp;omega),mid (by omega),wp,Bj (x:=((G+z-1:Nat):Int)-(((s+r) / 2:Nat):Int)) (y:=((G+z-1-(s+r) / 2:Nat):Int)) (by omega) (by omega) (by omega),Iu rfl ad,aD,Iu rfl O,aD,Bj (x:=(((s+r) / 2:Nat):Int)+1) rfl (by omega) (by omega)];refine (CG (by omega) (CL M ad) (CL M O)).bind λr T=>?_;rw[bo];refine ⟨λh=>hg λg=>?_,λh=>hn λg=>?_⟩
      ·have:=T.2 g;simp at h;omega
      ·simp at h;exact g (T.1 h)
     ·simp only;rw[if_neg (by simp)];have we:i64.wrap (((G+z:Nat):Int)-(s:Int))=((G+z-s:Nat):Int):=Bj (by omega) (by omega) (by omega);simp only[we];obtain ⟨d,a6⟩:∃d,d=s-K:=⟨_,rfl⟩;obtain ⟨n,a7⟩:∃n,n=G-s:=⟨_,rfl⟩;have la:d<=A.length:=by omega
      have lb:n<=B.length:=by omega
      have eA:A=A.take d++A.drop d:=(NL _ _).symm;have eB:B=B.take n++B.drop n:=(NL _ _).symm;have a8:(A.take d).length=d:=by simp;omega
      have a9:(A.drop d).length=A.length-d:=by simp
      have bb:(B.take n).length=n:=by simp;omega
      have bc:(B.drop n).length=B.length-n:=by simp
      have f1:d=0∨B.length<=n∨Bt p (A.getD (d-1) 0) (B.getD n 0):=by
       by_cases Y:d=0
       ·exact .inl Y
       by_cases Z:B.length<=n
       ·exact .inr (.inl Z)
       rcases o with o | o
       ·omega
       rw[jL (L:=P++A) (B:=B) (R:=S) (t:=n) (by simp;omega) (by omega),show P++A++B++S=P++A++(B++S) by simp,jL (L:=P) (B:=A) (t:=d-1) (by omega) (by omega)] at o;exact .inr (.inr o)
      have f2:n=0∨A.length<=d∨Bt p (B.getD (n-1) 0) (A.getD d 0):=by
       by_cases Y:n=0
       ·exact .inl Y
       by_cases Z:A.length<=d
       ·exact .inr (.inl Z)
       rcases E with E | E
       ·omega
       rw[jL (L:=P++A) (B:=B) (R:=S) (t:=n-1) (by simp;omega) (by omega),show P++A++B++S=P++A++(B++S) by simp,jL (L:=P) (B:=A) (t:=d) (by omega) (by omega)] at E;exact .inr (.inr (Classical.not_not.1 E).le)
      refine Dr (λx=>x=P++A.take d++B.take n++A.drop d++B.drop n++S) (λk hk=>?_) ?_
      ·rw[bo];refine ⟨λh=>?_,λh=>hk _ ?_⟩
       ·simp only[bG,br] at h;have e:P++A++B++S=(P++A.take d)++A.drop d++B.take n++(B.drop n++S):=by
         simp only[BM];rw[<-BM (B.take n) (B.drop n) S,NL,<-BM (A.take d) (A.drop d),NL]
        conv in (P++A++B++S)=>rw[e]
        rw[rot_ok (by simp;omega) (by rw[Bj rfl (by omega) (by omega)];omega) (by rw[Bj rfl (by omega) (by omega)];omega) (by omega) (by omega) (by omega) (by simp;omega),aD,pG (by rw[e];simp;omega)];exact hk _ (by simp)
       ·simp only[bG,br,yBG] at h;rcases h with h | h
        ·have:A.drop d=[]:=by rw[<-Zr];omega
         have e2:A.take d=A:=by rw[this] at eA;simpa using eA.symm
         rw[this,e2]
         conv=>lhs;rw[eB]
         simp
        ·have:B.take n=[]:=by rw[<-Zr];omega
         have e2:B.drop n=B:=by rw[this] at eB;simpa using eB.symm
         rw[this,e2]
         conv=>lhs;rw[eA]
         simp
      ·rintro _ rfl;refine Dr (λx=>∃C1,x=P++C1++A.drop d++B.drop n++S/\C1.Perm (A.take d++B.take n)/\(yD p (A.take d)->yD p (B.take n)->yD p C1)) (λk hk=>?_) ?_
       ·rw[bo];refine ⟨λh=>?_,λh=>hk _ ⟨A.take d++B.take n,by simp,.refl _,λZ h4=>?_⟩⟩
        ·simp only[bG,br] at h;have e:P++A.take d++B.take n++A.drop d++B.drop n++S=P++A.take d++B.take n++(A.drop d++B.drop n++S):=by simp
         have r:=ih P (A.take d) (B.take n) (A.drop d++B.drop n++S) K s G (by rw[<-UY];omega) (by rw[<-UY];omega) (by rw[<-e];simp;omega) (λx hx=>M x (by
          rw[<-e] at hx;simp only[mQ] at hx ⊢;rcases hx with ((((h | h) | h) | h) | h) | h
          ·exact .inl (.inl (.inl h))
          ·exact .inl (.inl (.inr (NP h)))
          ·exact .inl (.inr (NP h))
          ·exact .inl (.inl (.inr (yBi h)))
          ·exact .inl (.inr (yBi h))
          ·exact .inr h)) (by omega) ha (by omega) (by omega)
         rw[<-e] at r;refine r.bind λr T=>?_;obtain ⟨C,rfl,Z,h4⟩:=T;have h5:=Z.length_eq;simp only[AW] at h5;rw[pG (by simp;omega)];exact hk _ ⟨C,by simp,Z,h4⟩
        ·simp only[bG,br,yBG] at h;rcases h with h | h
         ·have:A.take d=[]:=by rw[<-Zr];omega
          rw[this];exact h4
         ·have:B.take n=[]:=by rw[<-Zr];omega
          rw[this,DM];exact Z
       ·rintro _ ⟨C1,rfl,g1,g2⟩;have lC:=g1.length_eq;simp only[AW] at lC;have aa:∀C2:List Int,C2.Perm (A.drop d++B.drop n)->yD p A->yD p B->∀u∈C1,∀v∈C2,Bt p u v:=λC2 g3 sA sB u hu v M=>by
         have hu:=mQ.1 (g1.mem_iff.1 hu);have M:=mQ.1 (g3.mem_iff.1 M);rcases hu with hu | hu <;> rcases M with M | M
         ·have:=NR.1 (eA▸sA:yD p (A.take d++A.drop d));exact this.2.2 u hu v M
         ·rcases f1 with f1 | f1 | f1
          ·subst f1;simp at hu
          ·rw[yBo f1] at M;simp at M
          ·exact Dd sB (.inr (Dc sA la (.inr f1) u hu)) v M
         ·rcases f2 with f2 | f2 | f2
          ·rw[f2] at hu;simp at hu
          ·rw[yBo f2] at M;simp at M
          ·exact Dd sA (.inr (Dc sB lb (.inr f2) u hu)) v M
         ·have:=NR.1 (eB▸sB:yD p (B.take n++B.drop n));exact this.2.2 u hu v M
        have af:∀C2:List Int,C2.Perm (A.drop d++B.drop n)->(C1++C2).Perm (A++B):=λC2 g3=>by
         refine (List.Perm.append g1 g3).trans ?_
         conv=>rhs;rw[eA,eB]
         simp only[BM];refine List.Perm.append_left _ ?_;rw[<-BM,<-BM (A.drop d)];exact List.Perm.append_right _ yBS
        rw[bo];refine ⟨λh=>?_,λh=>aY.2 ⟨C1++(A.drop d++B.drop n),by simp,af _ (.refl _),λsA sB=>?_⟩⟩
        ·simp only[bG,br] at h;have e:P++C1++A.drop d++B.drop n++S=(P++C1)++A.drop d++B.drop n++S:=rfl;have r:=ih (P++C1) (A.drop d) (B.drop n) S G ((G+z-s:Nat):Int) Q (by rw[<-UY];omega) (by rw[<-UY];omega) (by simp;omega) (λx hx=>M x (by
          simp only[mQ] at hx ⊢;rcases hx with (((h | h) | h) | h) | h
          ·exact .inl (.inl (.inl h))
          ·rcases mQ.1 (g1.mem_iff.1 h) with h | h
           ·exact .inl (.inl (.inr (NP h)))
           ·exact .inl (.inr (NP h))
          ·exact .inl (.inl (.inr (yBi h)))
          ·exact .inl (.inr (yBi h))
          ·exact .inr h)) (by omega) (by simp;omega) (by simp;omega) (by simp;omega)
         refine r.bind λr T=>?_;obtain ⟨C2,rfl,Z,h4⟩:=T;refine aY.2 ⟨C1++C2,by simp,af _ Z,λsA sB=>?_⟩;exact NR.2 ⟨g2 (sA.LN _) (sB.LN _),h4 (sA.MA _) (sB.MA _),aa _ Z sA sB⟩
        ·refine NR.2 ⟨g2 (sA.LN _) (sB.LN _),?_,aa _ (.refl _) sA sB⟩;simp only[bG,br,yBG] at h;rcases h with h | h
         ·have:A.drop d=[]:=by rw[<-Zr];omega
          rw[this];exact sB.MA _
         ·have:B.drop n=[]:=by rw[<-Zr];omega
          rw[this,DM];exact sA.MA _
end Go.Plain
end
section
namespace Go.Plain
open Go.Abs
theorem rI{X R:Type}{b:(X->Option R)->X->Option R}{Q:R->Prop}{n:Nat}{x:X}(hn:0<n)(h:∀f,f=bB b (n-1)->bL (b f x) Q):bL (bB b n x) Q:=by obtain ⟨k,rfl⟩:∃k,n=k+1:=⟨n-1,by omega⟩;exact h _ rfl
theorem NY{p:List K3}{N:Nat}{P A S:List Int}{a E:Int}(ha:a=P.length)(hE:E=P.length+A.length)(hN:1100<=N)(hl:(P++A++S).length<=1000)(O:∀x∈P++A++S,Sq p x) :
  bL (bB (λf8 (Q : Int × List Int)=>
         if (decide (Q.1<E))=true then
          bB (λad (d:Int×List Int)=>
           jn (λ(af:Bool)=>
            if af=true then
             (aB d.2 (i64.wrap (d.1-1))).bind λR=>
             (aB d.2 d.1).bind λak=>
             (aB d.2 d.1).bind λa6=>
             (aB (d.2.set d.1.toNat R) (i64.wrap (d.1-1))).bind λa7=>
             ad ((i64.wrap (d.1-1)),((d.2.set d.1.toNat R).set (i64.wrap (d.1-1)).toNat ak))
            else
             f8 ((i64.wrap (Q.1+1)),d.2)) λW=>
           if (decide (d.1 > a))=true then
           (aB d.2 d.1).bind λan=>
           (aB d.2 (i64.wrap (d.1-1))).bind λav=>
           (
            (aB p an).bind λt=>
            (aB p av).bind λG=>
            (ZI N ([t.1,t.2.1,t.2.2]:List Int) ([G.1,G.2.1,G.2.2]:List Int)).bind λax=>
            some ax).bind λa0=>
           W (decide (a0<0))
           else
           W false) N (Q.1,Q.2)
         else
          some Q.2) N ((i64.wrap (a+1)),P++A++S)) λr=>∃C,r=P++C++S/\C.Perm A/\yD p C:=by
 have a1:=hl;simp only[AW] at a1;rw[Bj (x:=a+1) (y:=a+1) rfl (by omega) (by omega)];refine lpM (I:=λx=>∃C T,x.2=P++C++T++S/\(C++T).Perm A/\yD p C/\x.1=a+(if A=[] then 1 else (C.length:Int))/\(A≠[]->0<C.length)) (m:=λx=>(E+1-x.1).toNat) (λx f hI hr=>?_) ?_ (by simp;omega)
 ·obtain ⟨i,row⟩:=x;obtain ⟨C,T,rfl,hp,hs,hi,h0⟩:=hI;simp only at hi hr ⊢;have n:=hp.length_eq;simp only[AW] at n;by_cases hA:A=[]
  ·subst hA;simp only[if_true,List.length_nil] at hi n hE;rw[if_neg (by simp;omega),aY];have hC:C=[]:=by rw[<-Zr];omega
   have hT:T=[]:=by rw[<-Zr];omega
   subst hC hT;exact ⟨[],by simp,.refl _,hs⟩
  ·rw[if_neg hA] at hi;have a8:=h0 hA;cases T with
   |nil=>simp only[List.length_nil] at n;rw[if_neg (by simp;omega),aY];exact ⟨C,by simp,by simpa using hp,hs⟩
   |cons y T=>
    simp only[List.length_cons] at n;rw[if_pos (by simp;omega)];refine lpM (I:=λz=>∃U V,z=(a+(U.length:Int),P++U++y::(V++T++S))/\U++V=C/\∀v∈V,Bt p y v) (m:=λz=>(z.1-a).toNat) (λz g hz a2=>?_) ⟨C,[],by rw[hi];simp,by simp,by simp⟩ (by simp;omega);obtain ⟨U,V,rfl,e,X⟩:=hz;have K:=Ja List.length e;simp only[AW] at K;have M:∀x∈P++U++y::(V++T++S),Sq p x:=λx Y=>O x (by
     simp only[mQ,gn] at Y ⊢;have o:x∈U∨x∈V∨x=y∨x∈T->x∈A:=λh=>hp.mem_iff.1 (by
      rw[<-e];simp only[mQ,gn];rcases h with h | h | h | h
      ·exact .inl (.inl h)
      ·exact .inl (.inr h)
      ·exact .inr (.inl h)
      ·exact .inr (.inr h))
     rcases Y with (h | h) | h | (h | h) | h
     ·exact .inl (.inl h)
     ·exact .inl (.inr (o (.inl h)))
     ·exact .inl (.inr (o (.inr (.inr (.inl h)))))
     ·exact .inl (.inr (o (.inr (.inl h))))
     ·exact .inl (.inr (o (.inr (.inr (.inr h)))))
     ·exact .inr h)
    have done:(∀u∈U,Bt p u y)->bL (f (i64.wrap (i+1),P++U++y::(V++T++S))) (λr=>∃C,r=P++C++S/\C.Perm A/\yD p C):=λhu=>by
     rw[Bj (x:=i+1) rfl (by omega) (by omega)];refine hr _ ⟨U++y::V,T,by simp,?_,?_,?_,λ_=>by simp;omega⟩ (by simp;omega)
     ·refine List.Perm.trans ?_ hp;rw[<-e];have:(U++y::V).Perm (U++V++[y]):=by
       rw[BM];exact List.Perm.append_left _ (yBS (l₁:=[y]))
      have:=this.append_right T;simpa using this
     ·have Z:=NR.1 (e▸hs:yD p (U++V));refine NR.2 ⟨Z.1,yBm.2 ⟨X,Z.2.1⟩,λu h v O=>?_⟩;rcases gn.1 O with rfl | O
      ·exact hu u h
      ·exact Z.2.2 u h v O
     ·rw[if_neg hA];simp;omega
    refine Dr (λx=>(x=true->∃b v,U=b++[v]/\Bt p y v)/\(x=false->∀u∈U,Bt p u y)) (λk hk=>?_) (λx Y=>?_)
    ·rw[bo];refine ⟨λh=>?_,λh=>hk _ ⟨by simp,λ_ u hu=>?_⟩⟩
     ·simp at h;rcases List.eq_nil_or_concat U with rfl | ⟨b,v,rfl⟩
      ·simp at h
      simp only[yBR] at M hk h ⊢;simp only[yBR,AW,List.length_cons,List.length_nil] at K;have w:i64.wrap (a+((b++[v]).length:Nat)-1)=((P++b).length:Nat):=Bj (by simp;omega) (by simp;omega) (by simp;omega);have e1:P++(b++[v])++y::(V++T++S)=(P++b)++v::(y::(V++T++S)):=by simp
      rw[w,dQ (by simp;omega),aD,show aB (P++(b++[v])++y::(V++T++S)) ((P++b).length:Nat)=some v from by rw[e1];exact dQ rfl,aD];refine (CG (by omega) (M y (by simp)) (M v (by simp))).bind λr aa=>hk _ ⟨λh=>⟨b,v,rfl,(aa.1 (by simpa using h)).le⟩,λh u hu=>?_⟩;have ab:Bt p v y:=λg=>by have:=aa.2 g;simp at h;omega
      simp only[yBR] at e;have Z:=NR.1 (e▸hs:yD p ((b++[v])++V));have h2:=NR.1 Z.1;rcases mQ.1 hu with hu | hu
      ·exact (h2.2.2 u hu v (by simp)).trans ab
      ·simp at hu;subst hu;exact ab
     ·simp at h;have:U=[]:=by rw[<-Zr];omega
      subst this;simp at hu
    ·rw[bo];refine ⟨λh=>?_,λh=>done (Y.2 (by simpa using h))⟩;obtain ⟨b,v,rfl,a5⟩:=Y.1 h;simp only[AW,List.length_cons,List.length_nil] at K;have w:i64.wrap (a+((b++[v]).length:Nat)-1)=((P++b).length:Nat):=Bj (by simp;omega) (by simp;omega) (by simp;omega);have e1:P++(b++[v])++y::(V++T++S)=(P++b)++v::(y::(V++T++S)):=by simp
     have e3:P++(b++[v])++v::(V++T++S)=(P++b)++v::(v::(V++T++S)):=by simp
     simp only;rw[w,show aB (P++(b++[v])++y::(V++T++S)) ((P++b).length:Nat)=some v from by rw[e1];exact dQ rfl,aD,dQ (by simp;omega),aD,aD,jv (by simp;omega),e3,dQ (by simp),aD,jv (by simp)];refine a2 _ ⟨b,v::V,by simp;omega,by rw[<-e];simp,λu hu=>?_⟩ (by simp;omega);rcases gn.1 hu with rfl | hu
     ·exact a5
     ·exact X u hu
 ·refine ⟨A.take 1,A.drop 1,by simp only[BM];rw[<-BM (A.take 1),NL],by rw[NL],?_,?_,?_⟩
  ·cases A with
   |nil=>exact .nil
   |cons=>simp[yD]
  ·cases A <;> simp
  ·intro (h:A≠[]);have:=UY.2 h;simp;omega
def SL(n:Nat):List Int:=(List.range n).map λ(i:Nat)=>(i:Int)
theorem q_(n:Nat):(SL n).length=n:=by simp[SL]
theorem ZP{n i:Nat}(h:i<n):(SL n)[i]'(by rw[q_];exact h)=(i:Int):=by simp[SL]
theorem QH{p:List K3}{x:Int}(h:x∈SL p.length):Sq p x:=by simp only[SL,iT,yBM] at h;obtain ⟨i,a,rfl⟩:=h;exact ⟨by omega,by omega⟩
theorem Sb{α:Type}{z:α}{n:Nat}(h:n<=1000):EY z (n:Int) (n:Int)=some (List.replicate n z):=by unfold EY;simp;omega
theorem Pw{N:Nat}{p:List K3}(hp:p.length<40)(hN:2000<=N):bL (zeI N p) λr=>r.Perm (SL p.length)/\yD p r:=by
 unfold zeI;rw[Sb (by omega),aD];refine ja p.length (λi x=>x=((i:Int),(SL p.length).take i++List.replicate (p.length-i) 0)) (λi x f X n b=>?_) (λx f n=>?_) (by simp) (by omega)
 ·subst n;have Y:((SL p.length).take i).length=i:=by simp[q_];omega
  have e:List.replicate (p.length-i) (0:Int)=0::List.replicate (p.length-(i+1)) 0:=by rw[show p.length-i=(p.length-(i+1))+1 by omega,List.replicate_succ]
  simp only;rw[if_pos (by simp;omega),e,dQ (by rw[Y]),aD,jv (by rw[Y]),bT (by omega)];refine b _ (by rw[List.take_add_one,eH (by rw[q_];exact X),ZP X];simp)
 ·subst n;rw[yBA (by rw[q_];exact cR _),yCj,List.replicate_zero,DM];simp only;rw[if_neg (by simp),q_];generalize n:SL p.length=x;have z:x.length=p.length:=by rw[<-n,q_]
  have d:∀a∈x,Sq p a:=λa g=>QH (by rw[n];exact g)
  suffices key:∀o:Option (List Int),(bL o λr=>r.Perm x/\yD p r)->bL ((o.bind λK=>some K).bind λu=>BC p.length u.length<|some u) λr=>r.Perm x/\yD p r by
   refine key _ ?_;have M:i64.wrap (20+20)=40:=rfl;have O:i64.wrap (2 * 20)=40:=rfl;have Q:i64.wrap (20 * 2)=40:=rfl;have R:i64.wrap (0+20)=20:=rfl;by_cases aa:p.length<20
   ·refine rI (by omega) λf y=>?_;simp only;rw[if_neg (by simp;omega)];have Z:=NY (p:=p) (N:=N) (P:=[]) (A:=x) (S:=[]) (a:=0) (E:=p.length) rfl (by simp;omega) (by omega) (by simp;omega) (by simpa using d);rw[xAb,DM] at Z;refine Z.bind λr b=>?_;obtain ⟨C,rfl,h,t⟩:=b;rw[pG (by simpa using h.length_eq.symm)];refine rI (by omega) λf y=>?_;rw[if_neg (by simp;omega),aY];exact ⟨by simpa using h,by simpa using t⟩
   ·refine rI (by omega) λf y=>?_;simp only;have v:x=x.take 20++x.drop 20:=(NL _ _).symm;have l1:(x.take 20).length=20:=by simp;omega
    have l2:(x.drop 20).length=p.length-20:=by simp;omega
    rw[if_pos (by simp;omega)];have r1:=NY (p:=p) (N:=N) (P:=[]) (A:=x.take 20) (S:=x.drop 20) (a:=0) (E:=20) rfl (by rw[l1];simp) (by omega) (by simp;omega) (by simpa using d);rw[xAb,<-v] at r1;refine r1.bind λr b=>?_;obtain ⟨C,rfl,h,t⟩:=b;have T:C.length=20:=by rw[h.length_eq,l1]
    rw[xAb,pG (by simp;omega),M,y];refine rI (by omega) λf y=>?_;simp only;rw[if_neg (by simp;omega)];have U:∀a∈C++x.drop 20,Sq p a:=λa g=>d a (by
     rcases mQ.1 g with g | g
     ·exact NP (h.mem_iff.1 g)
     ·exact yBi g)
    have r2:=NY (p:=p) (N:=N) (P:=C) (A:=x.drop 20) (S:=[]) (a:=20) (E:=p.length) (by rw[T];rfl) (by rw[T,l2];omega) (by omega) (by simp;omega) (by simpa using U);rw[DM] at r2;refine r2.bind λr b=>?_;obtain ⟨D,rfl,h3,h4⟩:=b;have lD:D.length=p.length-20:=by rw[h3.length_eq,l2]
    have m:(C++D).Perm x:=by rw[v];exact List.Perm.append h h3
    rw[DM,pG (by simp;omega)];refine rI (by omega) λf2 W=>?_;simp only;by_cases ab:p.length=20
    ·rw[if_neg (by simp;omega),aY];have:D=[]:=by rw[<-Zr];omega
     subst this;exact ⟨m,by simpa using t⟩
    ·rw[if_pos (by simp;omega),O];refine rI (by omega) λf3 ad=>?_;simp only;rw[if_neg (by simp;omega),R];refine Dr (λr=>r.Perm x/\yD p r) (λk hk=>?_) (λr b=>?_)
     ·rw[if_pos (by simp;omega)];have r3:=LL (p:=p) N [] C D [] 0 20 p.length (by rw[<-UY];omega) (by rw[<-UY];omega) (by simp;omega) (λa g=>d a (m.mem_iff.1 (by simpa using g))) (by omega) rfl (by rw[T];rfl) (by simp;omega);rw[xAb,DM] at r3;refine r3.bind λr b=>?_;obtain ⟨G,rfl,h5,h6⟩:=b;have lG:=h5.length_eq;rw[pG (by simp at lG ⊢;omega)];exact hk _ ⟨by simpa using h5.trans m,by simpa using h6 t h4⟩
     ·rw[Q,W];refine rI (by omega) λf4 af=>?_;simp only;rw[if_neg (by simp;omega),aY];exact b
  intro o ⟨r,ho,h,t⟩;rw[ho,aD,aD,pG (by rw[h.length_eq,z])];exact aY.2 ⟨h,t⟩
end Go.Plain
end
