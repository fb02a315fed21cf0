/- Lemmas. -/
import Derived.Test.YtcndmfkgdaipaaaGreatLawB
import Derived.Test.YtcndmfkgdaipaaaGreatLawA
set_option linter.all false
open Go.IntKind (i64 u64)
section
namespace Go.Plain
open Go.Abs
theorem tY{zs:List Int}{j:Nat}(h:j<zs.length):zs.toArray[j]! = zs[j]:=by simp_all
def Mr(zs:List Int)(x:Int):x∈Lib.compact zs↔x∈zs:=by
 unfold Lib.compact Lib.compactUpTo;constructor
 ·grind
 ·intro h;obtain ⟨j,hj,rfl⟩:=iM h;have:∀j (hj:j<zs.length),zs[j]∈((List.range zs.length).filter (Lib.keeps zs.toArray)).map (zs.toArray[·]!):=by
   intro j;induction j with
   |zero=>intro hj;exact iX.2 ⟨0,Gp.2 ⟨yCd.2 hj,by simp[Lib.keeps]⟩,tY hj⟩
   |succ j ih=>
    intro hj;by_cases e:zs[j+1]=zs[j]
    ·simp_all
    ·refine iX.2 ⟨j+1,Gp.2 ⟨yCd.2 hj,?_⟩,tY hj⟩;unfold Lib.keeps
     grind
  simp_all
def Er{zs:List Int}(h:zs.Pairwise λa b=>a<=b):(Lib.compact zs).Pairwise λa b=>a<=b:=by
 unfold Lib.compact Lib.compactUpTo;rw[List.pairwise_map]
 grind [tY,List.pairwise_iff_getElem]
def WN{R:Type}{a b:Nat}(h:a=b)(k:Option R):BY a b k=k:=by grind [Go.Abs.BY,Nat.beq_refl]
structure XK (nodes:List (List bS)) (part:List Int) (T:List Int):Prop where
 bH:T.Pairwise λa b=>a<=b
 mem:∀x,x∈T↔∃n∈part,∃s∈(nodes[n.toNat]?).getD [],s.At=x
def TD{l:List Int}(hl:l.length<=1000000){Q:List Int->Prop}(h:∀T,T.Pairwise (λa b=>a<=b)->(∀x,x∈T↔x∈l)->T.length<=l.length->Q T) :
  bQ ((zch 5000 l).bind λe=>BY l.length e.length<|(zbO 5000 e).bind λf=>some f.2) Q:=by
 unfold zch zbO Mj;rw[Abs.Mf];have d:∀m:List Int,m.map (λk=>k)=m:=λm=>List.map_id' m;rw[if_pos hl,aw,d,d,WN (List.length_mergeSort l).symm];unfold NV;rw[if_pos (by simp_all),aw,aY,d,d];have g:∀a b c:Int,decide (a<=b)=true->decide (b<=c)=true->decide (a<=c)=true:=λa b c n o=>by grind
 have i:∀a b:Int,(decide (a<=b) || decide (b<=a))=true:=λa b=>by grind
 have hs:(l.mergeSort λx y=>decide (x<=y)).Pairwise λa b=>a<=b:=(List.pairwise_mergeSort g i l).imp λ{a b} h=>by simp_all
 refine h _ (Er hs) (λx=>?_) (by grind [Go.Abs.yE,List.length_mergeSort]);rw[Mr,(List.mergeSort_perm l _).mem_iff]
def Gs{nodes:List (List bS)}{q:jS}{L:Nat}(hL:L<=200)(hq:qd q)(hp:PR nodes q L){w:CJ}(hw:fX q w) :
  bQ (zbv 5000 nodes w.Part q.S.aG) λT=>XK nodes (cz q w) T/\T.length<=3200:=by
 have nn:=hq.spec.nodes.hi;obtain ⟨u,v⟩:=km hw;have r:=hq.spec.parts.ok _ v;have pl:(cz q w).length<=16:=by
  rcases vW r.2 with h | h
  ·omega
  simp_all
 have t:=hp.len;unfold zbv;rw[if_neg (by have:=hw.part;simp_all),u,aw];refine iL (cz q w).length (λi x=>x.1=(i:Int)/\x.2.length<=200 * i/\∀y,y∈x.2↔∃n∈(cz q w).take i,∃s∈(nodes[n.toNat]?).getD [],s.At=y) (λi x f hi a z=>?_) (λx f a=>?_) ⟨rfl,by simp,λy=>by simp⟩ (by omega)
 ·obtain ⟨y,T⟩:=x;obtain ⟨rfl,g,b⟩:=a;dsimp only at g b ⊢;have hn:=r.2.mem _ (bA hi);obtain ⟨k,A⟩:∃k:Nat,(cz q w)[i]=(k:Int):=⟨((cz q w)[i]).toNat,by omega⟩;have hk:k<nodes.length:=by omega
  obtain ⟨G,lk⟩:=hp.cN.each k hk;rw[if_pos (cS hi),bY hi,aw,A,bY hk,aw];refine iL nodes[k].length (λj x=>x.1=(j:Int)/\x.2.length=T.length+j/\∀y,y∈x.2↔y∈T\/∃s∈nodes[k].take j,s.At=y) (λj x E hj a m=>?_) (λx E a=>?_) ⟨rfl,rfl,λy=>by simp⟩ (by omega)
  ·obtain ⟨y,U⟩:=x;obtain ⟨rfl,o,d⟩:=a;dsimp only at o d ⊢;rw[if_pos (cS hj),bY hj,aw,ze (by grind),aw,bV (show j<1000000 by omega)];refine m _ ⟨rfl,by grind,λy=>?_⟩;dsimp only;rw[kL,zV,d,or_assoc];refine or_congr_right ?_;constructor
   ·rintro (⟨s,e,p⟩ | h)
    ·grind
    ·exact ⟨_,(eO hj).2 (.inr rfl),h.symm⟩
   ·rintro ⟨s,e,p⟩;rcases (eO hj).1 e with e | e
    ·grind
    simp_all
  ·obtain ⟨y,U⟩:=x;obtain ⟨rfl,o,d⟩:=a;dsimp only at o d ⊢;rw[if_neg (by simp),bV (show i<1000000 by omega)];rw[xB] at d;refine z _ ⟨rfl,by grind,λy=>?_⟩;dsimp only;rw[d,b,Hw hi]
   simp_all
 ·obtain ⟨y,T⟩:=x;obtain ⟨rfl,g,b⟩:=a;dsimp only at g b ⊢;rw[if_neg (by simp)];rw[xB] at b;exact TD (by omega) λU e p K=>⟨⟨e,λx=>(p x).trans (b x)⟩,by omega⟩
def cE(q:jS)(w:CJ)(t:Int):List dk×Bool:=(Wf 5000 q w t).getD ([],false)
structure vC (q:jS) (w:CJ) (T:List Int) (r:iO×Bool):Prop where
 yes:r.2=true->r.1.At∈T/\(cE q w r.1.At).2=true/\(∀s∈T,(cE q w s).2=true->r.1.At<=s)/\r.1.bj=0/\r.1.aj=(cE q w r.1.At).1
 no:r.2=false->(∀s∈T,(cE q w s).2=false)/\r.1={ bj:=0,At:=0,aj:=[] }
section
variable{nodes:List (List bS)}{q:jS}{L:Nat}(hL:L<=200)(hq:qd q)(hp:PR nodes q L){w:CJ}(hw:fX q w)
include hL hq hp hw
theorem Br{t:Int}(b:q.aO<=t):zaH 5000 nodes w.Part w.aL w.ay w.aR t q.aO q.S.aG=some (cE q w t)/\Wf 5000 q w t=some (cE q w t):=by
 by_cases d:t<=1099511627776
 ·obtain ⟨F,_,_,e,a⟩:=AG (by omega) hq hp hw b d;have:cE q w t=BW F (cz q w) w.aL w.ay:=by grind [cE]
  simp_all
 ·have a:Wf 5000 q w t=some ([],false):=by
   unfold Wf
   simp_all
  have:cE q w t=([],false):=by grind [cE]
  rw[this];refine ⟨?_,a⟩;unfold zaH
  simp_all
theorem Vf:bQ (za7 5000 q w) λr=>∃T,Dj q T/\vC q w T r:=by
 unfold za7;refine (KY hq).bind λT a=>?_;have k:=a.len;refine xX T (λ_ t=>(cE q w t).2=false) (λi f hi b d=>?_) (λf b=>?_) (by omega)
 ·have e:=(a.mem T[i]).1 (bA hi);rw[if_pos (cS hi),bY hi,aw,(Br hL hq hp hw e.1).2,aw,bq,bV (show i<1000000 by omega)];refine ⟨λh=>?_,λh=>d (by simp_all)⟩;rw[aw,aY];refine ⟨T,a,⟨λ_=>⟨bA hi,h,λs hs m=>?_,rfl,rfl⟩,λh=>by simp at h⟩⟩;obtain ⟨j,hj,rfl⟩:=iM hs;dsimp only;rcases Wh j i with g | g | g
  ·simp_all
  ·simp_all
  ·have:=yBg.1 a.bH i j hi hj g;omega
 ·rw[if_neg (by simp),aY];exact ⟨T,a,⟨λh=>by simp at h,λ_=>⟨De (A:=λt=>(cE q w t).2=false) b,rfl⟩⟩⟩
theorem HY{T:List Int}(b:XK nodes (cz q w) T):q.aO∈T/\∀x∈T,q.aO<=x:=by
 obtain ⟨i,g⟩:=km hw;have d:=hq.spec.parts.ok _ g;have e:=hp.len;constructor
 ·have f:0<(cz q w).length:=by omega
  have hn:=d.2.mem _ (bA f);have hk:((cz q w)[0]).toNat<nodes.length:=by omega
  obtain ⟨a,lk⟩:=hp.cN.each _ hk;refine (b.mem _).2 ⟨_,bA f,nodes[((cz q w)[0]).toNat][0]'a.ne,?_,hp.cN.first _ hk a.ne⟩
  simp_all
 ·intro x h;obtain ⟨n,hn,s,hs,rfl⟩:=(b.mem x).1 h;have nb:=d.2.mem n hn;have hk:n.toNat<nodes.length:=by omega
  obtain ⟨a,lk⟩:=hp.cN.each _ hk;rw[dW hk,OE] at hs;obtain ⟨j,hj,rfl⟩:=iM hs;have:=hp.cN.first _ hk a.ne;have:=a.le (Qf j) hj;omega
theorem OL:bQ (zaL 5000 nodes w.Part w.aL w.ay w.aR q.aO q.S.aG) fun r=>∃T,XK nodes (cz q w) T/\vC q w T r:=by
 unfold zaL
 refine (Gs hL hq hp hw).bind fun T d=>?_
 obtain ⟨d,v⟩:=d
 have a:=(HY hL hq hp hw d).2
 have fin:∀i (hi:i<T.length),(∀j (hj:j<T.length),j<i->(cE q w T[j]).2=false)->(cE q w T[i]).2=true->vC q w T ({ bj:=0,At:=T[i],aj:=(cE q w T[i]).1 },true):=fun i hi e h=>
  ⟨fun _=>⟨bA hi,h,fun s hs m=>by
   obtain ⟨j,hj,rfl⟩:=iM hs
   dsimp only
   rcases Wh j i with g | g | g
   ·simp_all
   ·simp_all
   ·have:=yBg.1 d.bH i j hi hj g; omega,rfl,rfl⟩,fun h=>by simp at h⟩
 have none:(∀j (hj:j<T.length),(cE q w T[j]).2=false)->vC q w T ({ bj:=0,At:=0,aj:=[] },false):=fun e=>
  ⟨fun h=>by simp at h,fun _=>⟨De (A:=fun t=>(cE q w t).2=false) e,rfl⟩⟩
 rw [bq]
 refine ⟨fun h=>?_,fun h=>?_⟩
 ·rw [aY]
  grind
 ·have n:0<T.length:=by grind
  have o:aD T 0=some T[0]:=bY n
  rw [o,aw,(Br hL hq hp hw (a _ (bA n))).1,aw,bq]
  refine ⟨fun p=>?_,fun p=>?_⟩
  ·grind [aY]
  ·refine iL (T.length-1) (fun i x=>x=(T,((i+1:Nat):Int))/\∀j (hj:j<T.length),j<i+1->(cE q w T[j]).2=false) (fun i x f hi k y=>?_) (fun x f k=>?_) ⟨rfl,fun j hj u=>?_⟩ (by omega)
   ·obtain ⟨rfl,e⟩:=k
    have b:i+1<T.length:=by omega
    dsimp only
    rw [if_neg (by grind),bY b,aw,(Br hL hq hp hw (a _ (bA b))).1,aw,bq]
    refine ⟨fun m=>?_,fun m=>?_⟩
    ·grind [aY]
    ·rw [bV (show i+1<1000000 by omega)]
     grind
   ·obtain ⟨rfl,e⟩:=k
    dsimp only
    rw [if_pos (by grind),aY]
    grind
   simp_all
theorem Hk{t a:Int}(m:q.aO<=a)(h:a<=t)(o:∀n∈cz q w,∀u,a<=u->u<=t->bC q n u=bC q n t)(i:(cE q w t).2=true):(cE q w a).2=true:=by
 have Q:=hp.right;have p:=hq.now;have R:=hw.wall;have r:t<=1099511627776:=by
  rcases yC6 1099511627776 t with g | g
  ·exfalso;have T:Wf 5000 q w t=some ([],false):=by
    unfold Wf
    simp_all
   grind [cE]
  omega
 obtain ⟨F,x,b,_,e⟩:=AG (by omega) hq hp hw (show q.aO<=t by omega) r;obtain ⟨G,y,d,_,U⟩:=AG (by omega) hq hp hw m (by omega);have w1:cE q w t=BW F (cz q w) w.aL w.ay:=by grind [cE]
 have w2:cE q w a=BW G (cz q w) w.aL w.ay:=by grind [cE]
 rw[w1] at i;rw[w2];obtain ⟨z,A⟩:=vG.1 i;refine vG.2 ⟨z,Int.le_trans A (Qs b d hw.need λn hn c=>?_)⟩;have nb:=b.node n hn;obtain ⟨E,_,K⟩:=uI (F:=F) nb.1 nb.2;obtain ⟨M,_,N⟩:=uI (F:=G) nb.1 (by grind [GP.len]);have f:=x.low _ E;have k:=y.low _ M;rw[yCt nb.1] at f k;rw[K,N];obtain ⟨u,v,O,W,P,ev⟩:=k.cN c;rw[<-ev,P];by_cases g:u<t
 ·rw[o n hn u O (by omega)];exact f.le t _ (MG _) (by omega) rfl c
 ·exact f.le u _ (by omega) (by omega) rfl c
theorem YC{t:Int}(a:(cE q w t).2=true):t<=1099511627776:=by
 rcases yC6 1099511627776 t with g | g
 ·exfalso;have b:Wf 5000 q w t=some ([],false):=by
   unfold Wf
   simp_all
  grind [cE]
 omega
theorem YN:∃r,zaL 5000 nodes w.Part w.aL w.ay w.aR q.aO q.S.aG=some r/\za7 5000 q w=some r/\(∃T,Dj q T/\vC q w T r):=by
 obtain ⟨r,e,T,N,σ⟩:=Vf hL hq hp hw;obtain ⟨Z,e',v,i,d⟩:=OL hL hq hp hw;obtain ⟨ep,hm⟩:=km hw;have kp:=hq.spec.parts.ok _ hm;have aa:=hp.len;have O:=HY hL hq hp hw i;have f:∀t∈T,(cE q w t).2=true->∃h∈v,h<=t/\(cE q w h).2=true:=λt P Q=>by
  have A:=(N.mem t).1 P;obtain ⟨x,k,E,m,R⟩:=Bn v (a:=q.aO) A.1;have U:x∈v:=by grind
  refine ⟨x,U,m,Hk hL hq hp hw E m (λn hn u u1 u2=>?_) Q⟩;have nb:=kp.2.mem n hn;have hk:n.toNat<nodes.length:=by omega
  have v1:=hp.val n.toNat hk u (by omega);have v2:=hp.val n.toNat hk t A.1;rw[yCt nb.1] at v1 v2;obtain ⟨s,s1,s2,W,s4⟩:=v2;have sx:s.At<=x:=R _ ((i.mem _).2 ⟨n,hn,s,by simp_all,rfl⟩) s2;exact v1.By (hp.cN.each _ hk).1 ⟨s,s1,by omega,λs' o G=>W s' o (by omega),s4⟩
 have g:∀t∈v,(cE q w t).2=true->∃h∈T,h<=t/\(cE q w h).2=true:=λt P Q=>by
  have A:=O.2 t P;obtain ⟨x,k,E,m,R⟩:=Bn T (a:=q.aO) A;have U:x∈T:=by
   rcases k with k | k
   ·rw[k];exact (N.mem _).2 ⟨MG _,.inl rfl⟩
   omega
  refine ⟨x,U,m,Hk hL hq hp hw E m (λn hn u u1 u2=>?_) Q⟩;have c:∀y,x<=y->y<=t->bC q n y=bC q n x:=λy y1 y2=>Cd E y1 λz z1 z2 z3=>by have:=R z ((N.mem z).2 ⟨z1,z2⟩) (by omega);omega
  simp_all
 have:Z=r:=by
  obtain ⟨p,b⟩:=r;obtain ⟨X,b'⟩:=Z;cases b with
  |true=>
   obtain ⟨o,G,h3,h4,h5⟩:=σ.yes rfl;dsimp only at o G h3 h4 h5;obtain ⟨h,t1,t2,t3⟩:=f _ o G;cases b' with
   |true=>
    obtain ⟨K,M,g3,g4,g5⟩:=d.yes rfl;dsimp only at K M g3 g4 g5;obtain ⟨s',s1,s2,W⟩:=g _ K M;have:=g3 _ t1 t3;have:=h3 _ s1 W;have ea:X.At=p.At:=by omega
    have:X=p:=by
     obtain ⟨a1,a2,a3⟩:=p;obtain ⟨b1,b2,b3⟩:=X
     simp_all
    rw[this]
   |false=>
    have:=(d.no rfl).1 _ t1
    simp_all
  |false=>
   obtain ⟨o,G⟩:=σ.no rfl;cases b' with
   |true=>
    obtain ⟨K,M,_⟩:=d.yes rfl
    grind
   |false=>
    obtain ⟨K,M⟩:=d.no rfl
    simp_all
 grind
end
def eI(u:EG):jB:={ ay:=u.ay,aj:=u.aj,nM:=u.To }
structure Xh (q:jS):Prop where
 ref:qd q
 lo:∀u∈q.L,u.bT=q.aO/\q.aO<u.To
 caps:∀(i k:Nat)(h:k<q.S.am.length)(t:Int)(c:Nat),cmp c (bn (q.L.take i) k t)<=cmp c q.S.am[k]
 live:∀b∈q.aA,q.aO<b.To
 zk:∀b∈q.aA,∀t,b.bT<=t->q.aO<=t->bn q.L b.Node t=bK
def Po{q:jS}(h:Xh q):gW 5000 (q.L.map eI) q.aO q.S.am.length=some true:=by
 have o:=h.ref.xR;unfold gW;refine bQ.eq (xX (q.L.map eI) (λ_ _=>True) (λi f hi _ p=>?_) (λf r=>?_) (by grind))
 ·have a:i<q.L.length:=by simp_all
  have u:=h.ref.used _ (bA a);have t:=h.lo _ (bA a);have e:(q.L.map eI)[i]=eI q.L[i]:=Wc ..;obtain ⟨v,b,d⟩:=nV (eI q.L[i]).aj q.S.am.length u.xR;have:=d.2 u.shares;subst this;obtain ⟨x,g,k⟩:=Up (eI q.L[i]).ay;have:=k.2 u.need;subst this;rw[if_pos (cS hi),bY hi,e,aw,eE,b,aw,if_neg (by simp),g,aw];have m:decide ((eI q.L[i]).nM<=q.aO)=false:=by show decide (q.L[i].To<=q.aO)=false;simp_all
  have n:decide ((eI q.L[i]).nM > 281474976710656)=false:=by show decide (q.L[i].To > _)=false;have:=u.hi;simp_all
  rw[m,n];dsimp only;rw[if_neg (by simp),bV (show i<1000000 by omega)]
  simp_all
 ·rw[if_neg (by simp),aY]
def Le{now:Int}{r:aF}(h:0<=now/\now<=1099511627776)(a:aN r):dN [({ At:=now,cy:=r }:bS)]:=
 ⟨by simp,λi hi=>by grind,λs hs=>by grind⟩
def Ua{now:Int}{r:aF}(h:0<=now/\now<=1099511627776)(a:aN r):vJ 5000 now r=some ([{ At:=now,cy:=r }],0):=by unfold vJ;rw[jF (by simp) (Le h a),aw,if_neg (by simp)]
def IN{q:jS}(k:ba q.S){i:Nat}(hi:i<q.S.am.length):aN q.S.am[i]:=k.nodes.ok _ (bA hi)
def Mq{q:jS}(h:Xh q):bQ (zeK 5000 (q.L.map eI) q.S q.aO q.aA) λr=>∃nodes,r=.inr (nodes,q.aO,q.S.aG)/\PR nodes q (1+2 * (q.L.length+q.aA.length)):=by
 have hq:=h.ref;have hs:=kl hq.spec;have nn:=hq.spec.nodes.hi;have ad:=hq.now;have hf:=hq.xR;have hb:=hq.cF.len;unfold zeK;obtain ⟨rb,eb,av⟩:=EN q.aA q.S.am.length (by omega);have:=av.2 hq.cF;subst this;rw[eE,Bo hs hq.spec,aw,if_neg (by simp;omega),eb,aw,if_neg (by simp),Po h,aw];dsimp only;rw[if_neg (by simp)];have ak:=hs.parts;refine iL q.S.aG.length (λi x=>x=((i:Int),q.S.aG.take i)) (λi x f hi G σ=>?_) (λx f G=>?_) rfl (by omega)
 ·subst G;have pl:=hs.part _ (bA hi);dsimp only;rw[if_pos (cS hi),bY hi,aw];unfold zaY;rw[Eh (by omega),aw,ze (by simp;omega),aw,bV (show i<1000000 by omega)];exact σ _ (by rw[Hw hi])
 subst G;dsimp only;rw[if_neg (by simp),xB];refine iL q.S.am.length (λi x=>x.1=(i:Int)/\x.2=(q.S.am.take i).map λr=>[({ At:=q.aO,cy:=r }:bS)]) (λi x f hi G σ=>?_) (λx f G=>?_) ⟨rfl,rfl⟩ (by omega)
 ·obtain ⟨y,M⟩:=x;obtain ⟨rfl,rfl⟩:=G;dsimp only;rw[if_pos (cS hi),bY hi,aw,Ua ad (IN hq.spec hi),aw,if_neg (by simp),ze (by simp;omega),aw,bV (show i<1000000 by omega)];exact σ _ ⟨rfl,by rw[Hw hi,yBX];rfl⟩
 obtain ⟨y,M0⟩:=x;obtain ⟨rfl,rfl⟩:=G;dsimp only;rw[if_neg (by simp),xB];have af:∀(r:aF)(t:Int),q.aO<=t->yL [({ At:=q.aO,cy:=r }:bS)] t r:=λr t K=>⟨_,zV.2 rfl,K,λs' A _=>by rw[zV.1 A];exact MG _,rfl⟩;refine iL (q.L.map eI).length (λi x=>x.1=(i:Int)/\x.2.length=q.S.am.length/\Di x.2 q.aO (1+2 * i)/\∀(k:Nat)(A:k<x.2.length)(U:k<q.S.am.length)(t:Int),q.aO<=t->yL x.2[k] t (fD q.S.am[k] (bn (q.L.take i) k t))) (λi x f hi G σ=>?_) (λx f G=>?_) ⟨rfl,by simp,⟨λk hk=>?_,λk hk A=>by simp⟩,λk A U t K=>?_⟩ (by simp;omega)
 ·obtain ⟨y,M⟩:=x;obtain ⟨rfl,N,o,E⟩:=G;dsimp only at N o E ⊢;have Z:i<q.L.length:=by simpa using hi
  have u:=hq.used _ (bA Z);have lo:=h.lo _ (bA Z);have e:(q.L.map eI)[i]=eI q.L[i]:=Wc ..;have st:∀k t,bn (q.L.take (i+1)) k t=BA (bn (q.L.take i) k t) (ko q.L[i] k t):=λk t=>by rw[Hw Z,mT]
  rw[if_pos (cS hi),bY hi,e,aw];refine (Cm (by omega) o (by omega) (a:=q.aO) (b:=(eI q.L[i]).nM) (l:=(eI q.L[i]).aj) (need:=(eI q.L[i]).ay) (by rw[N];exact u.shares) u.xR u.need (MG _) (show q.aO<q.L[i].To by omega) u.hi (λk hk t v h1 U hv c=>?_)).bind λr aa=>?_
  ·have O:k<q.S.am.length:=by omega
   have ev:=hv.By (o.each k hk).1 (E k hk O t h1);have cp:=h.caps (i+1) k O t c;rw[st,vU] at cp;have ea:ko q.L[i] k t=mulR (dM q.L[i].aj k) q.L[i].ay:=by unfold ko;rw[if_pos ⟨by omega,U⟩]
   rw[ea] at cp;rw[ev,Co];show cmp c (mulR (dM q.L[i].aj k) q.L[i].ay)<=_;omega
  ·obtain ⟨r1,r2,r3⟩:=aa;rw[if_neg (by simp[r1]),bV (show i<1000000 by omega)];refine σ _ ⟨rfl,by dsimp only;omega,⟨λk hk=>?_,λk hk A=>?_⟩,λk A U t K=>?_⟩
   ·have T:=r3 k (by dsimp only at hk;omega) hk;exact ⟨T.ok,by have:=T.len;have:=(o.each k (by dsimp only at hk;omega)).2;dsimp only at *;omega⟩
   ·have T:=r3 k (by dsimp only at hk;omega) hk;have n0:=(o.each k (by dsimp only at hk;omega)).1.ne;dsimp only;rw[T.first n0 A,o.first k (by dsimp only at hk;omega) n0]
   ·have T:=r3 k (by dsimp only at A;omega) A;have:=T.val t _ (E k (by omega) U t K);dsimp only;rw[st];by_cases g:t<q.L[i].To
    ·have ea:ko q.L[i] k t=mulR (dM q.L[i].aj k) q.L[i].ay:=by unfold ko;rw[if_pos ⟨by omega,g⟩]
     rw[if_pos ⟨K,g⟩] at this;rw[ea,<-Ht];exact this
    ·have ea:ko q.L[i] k t=bK:=by unfold ko;rw[if_neg λW=>g W.2]
     rw[if_neg (show ¬(q.aO<=t/\t<(eI q.L[i]).nM) from λW=>g W.2)] at this;rw[ea,Il];exact this
 ·obtain ⟨y,M⟩:=x;obtain ⟨rfl,N,o,E⟩:=G;dsimp only at N o E ⊢;rw[if_neg (by simp)];rw[vR,xB] at E;rw[vR] at o;refine iL q.aA.length (λi x=>x.1=(i:Int)/\x.2.length=q.S.am.length/\Di x.2 q.aO (1+2 * (q.L.length+i))/\∀(k:Nat)(A:k<x.2.length)(t:Int),q.aO<=t->yL x.2[k] t (bC { q with aA:=q.aA.take i } k t)) (λi x f hi G σ=>?_) (λx f G=>?_) ⟨rfl,N,by simpa using o,λk A t K=>?_⟩ (by omega)
  ·obtain ⟨y,M⟩:=x;obtain ⟨rfl,N,o,E⟩:=G;dsimp only at N o E ⊢;have bk:=hq.cF.each i hi;have lv:=h.live _ (bA hi);have nd:=bk.one.node;obtain ⟨n,en⟩:∃n:Nat,q.aA[i].Node=(n:Int):=⟨q.aA[i].Node.toNat,by omega⟩;have hn:n<M.length:=by omega
   have ab:n<q.S.am.length:=by omega
   obtain ⟨sk,lk⟩:=o.each n hn;have f0:=o.first n hn sk.ne;rw[if_pos (cS hi),eE,bY hi,aw,if_neg (by simp;omega),en,bY hn,aw,bY ab,aw];have nv:=IN hq.spec ab;have an:jj q.S.am (n:Int)=q.S.am[n]:=zM ab;have X:∀t,q.aO<=t->q.aA[i].bT<=t->t<q.aA[i].To->bC { q with aA:=q.aA.take i } n t=q.S.am[n]:=λt h1 U h3=>by
    unfold bC;rw[if_neg]
    ·have:=h.zk _ (bA hi) t U h1;rw[en] at this;show fD (jj q.S.am n) (bn q.L n t)=_;rw[this,an];exact Oy λc=>by rw[Co,Oe];omega
    ·rintro ⟨b,Q,m1,m2,m3⟩;obtain ⟨j,hj,rfl⟩:=OA.1 Q;rw[BZ] at hj;simp only[Rk] at m1 m2 m3;refine (bk.up j (by omega) (by omega)).2 ⟨by rw[m1,en],by omega,bk.one.span,by omega,by omega⟩
   have ax:=bk.one.lo;have a0:=bk.one.hi;have sp:=bk.one.span;have mx:∀P:Int->Prop,P (if q.aO > q.aA[i].bT then q.aO else q.aA[i].bT)=P (max q.aO q.aA[i].bT):=λP=>by congr 1;split <;> omega
   rw[show (if q.aO > q.aA[i].bT then q.aO else q.aA[i].bT)=max q.aO q.aA[i].bT by split <;> omega]
   refine (xO (by omega) sk nv (by omega) (show max q.aO q.aA[i].bT<q.aA[i].To by omega) (by omega) λt v h1 U hv c=>?_).bind λr aa=>?_
   ·have ev:=hv.By sk (E n hn t (by omega));rw[ev,X t (by omega) (by omega) U];exact MG _
   ·obtain ⟨r1,T⟩:=aa;rw[if_neg (by simp[r1]),yA,bV (show i<1000000 by omega),Int.toNat_natCast];refine σ _ ⟨rfl,by simp[N],⟨λk hk=>?_,λk hk A=>?_⟩,λk A t K=>?_⟩
    ·by_cases g:n=k
     ·subst g;have e:(M.set n r.1)[n]'(by simpa using hn)=r.1:=yBE _;show dN (M.set n r.1)[n]/\(M.set n r.1)[n].length<=_;rw[e];exact ⟨T.ok,by have:=T.len;omega⟩
     ·have d:k<M.length:=by simpa using hk
      have e:(M.set n r.1)[k]'(by simpa using d)=M[k]:=yBO g _;show dN (M.set n r.1)[k]/\(M.set n r.1)[k].length<=_;rw[e];have:=o.each k d;exact ⟨this.1,by have:=this.2;omega⟩
    ·by_cases g:n=k
     ·subst g;have e:(M.set n r.1)[n]'(by simpa using hn)=r.1:=yBE _;simp only[e];rw[T.first sk.ne T.ok.ne,f0]
     ·have d:k<M.length:=by simpa using hk
      have e:(M.set n r.1)[k]'(by simpa using d)=M[k]:=yBO g _;simp only[e];exact o.first k d (o.each k d).1.ne
    ·have d:k<M.length:=by simpa using A
     have p:Fw (q.aA.take (i+1)) k t↔Fw (q.aA.take i) k t\/(q.aA[i].Node=(k:Int)/\q.aA[i].bT<=t/\t<q.aA[i].To):=by
      unfold Fw;rw[Hw hi];constructor
      ·rintro ⟨b,Q,m⟩;rcases kL.1 Q with g | g
       ·exact .inl ⟨b,g,m⟩
       ·rw[zV.1 g] at m;exact .inr m
      ·rintro (⟨b,g,m⟩ | m)
       ·exact ⟨b,yBI _ g,m⟩
       ·exact ⟨_,yBC _ (zV.2 rfl),m⟩
     by_cases g:n=k
     ·subst g;have e:(M.set n r.1)[n]'(by simpa using hn)=r.1:=yBE _;simp only[e];have VQ:=E n hn t K;have new:=T.val t _ VQ;by_cases W:q.aA[i].bT<=t/\t<q.aA[i].To
      ·rw[if_pos ⟨by omega,W.2⟩,X t K W.1 W.2] at new;have:bC { q with aA:=q.aA.take (i+1) } n t=bK:=by
        unfold bC;rw[if_pos];exact p.2 (.inr ⟨en,W⟩)
       rw[this];have z:fD q.S.am[n] q.S.am[n]=bK:=Oy λc=>by rw[Co,Oe];omega
       rw[z] at new;exact new
      ·rw[if_neg λR=>W ⟨by omega,R.2⟩] at new;have:bC { q with aA:=q.aA.take (i+1) } n t=bC { q with aA:=q.aA.take i } n t:=by
        unfold bC;by_cases R:Fw (q.aA.take i) n t
        ·rw[if_pos (show Fw (q.aA.take (i+1)) n t from p.2 (.inl R)),if_pos (show Fw (q.aA.take i) n t from R)]
        ·rw[if_neg (show ¬Fw (q.aA.take (i+1)) n t from λg4=>(p.1 g4).elim R λg5=>W g5.2),if_neg (show ¬Fw (q.aA.take i) n t from R)]
       rw[this];exact new
     ·have e:(M.set n r.1)[k]'(by simpa using d)=M[k]:=yBO g _;simp only[e];have:bC { q with aA:=q.aA.take (i+1) } k t=bC { q with aA:=q.aA.take i } k t:=by
       unfold bC;by_cases R:Fw (q.aA.take i) k t
       ·rw[if_pos (show Fw (q.aA.take (i+1)) k t from p.2 (.inl R)),if_pos (show Fw (q.aA.take i) k t from R)]
       ·rw[if_neg (show ¬Fw (q.aA.take (i+1)) k t from λg4=>(p.1 g4).elim R λg5=>by rw[en] at g5;omega),if_neg (show ¬Fw (q.aA.take i) k t from R)]
      rw[this];exact E k d t K
  ·obtain ⟨y,M⟩:=x;obtain ⟨rfl,N,o,E⟩:=G;dsimp only at N o E ⊢;rw[if_neg (by simp),aY];rw[xB] at E;exact ⟨M,rfl,N,o,E⟩
  ·have e:bC { q with aA:=q.aA.take 0 } k t=fD (jj q.S.am k) (bn q.L k t):=by
    unfold bC;rw[if_neg];rintro ⟨b,Q,_⟩;simp at Q
   have O:k<q.S.am.length:=by dsimp only at A;omega
   rw[e,zM O];exact E k A O t K
 ·have d:k<q.S.am.length:=by simpa using hk
  have e:((q.S.am).map λr=>[({ At:=q.aO,cy:=r }:bS)])[k]'(by simpa using d)=[{ At:=q.aO,cy:=q.S.am[k] }]:=Wc ..;simp only[e];exact ⟨Le ad (IN hq.spec d),by simp⟩
 ·have e:((q.S.am).map λr=>[({ At:=q.aO,cy:=r }:bS)])[k]'(by simpa using U)=[{ At:=q.aO,cy:=q.S.am[k] }]:=Wc ..;simp only[e];have z:fD q.S.am[k] (bn (q.L.take 0) k t)=q.S.am[k]:=Oy λc=>by rw[Co];simp[bn,Oe]
  rw[z];exact af _ t K
def zeroJ:aJ:={ Id:=0,bL:=0,Queue:=0,aL:=0,ay:={ bI:=0,Mem:=0,bM:=0,bR:=0 },aR:=0,aE:=[],State:=0,Ok:=false,cH:=false,aK:=0,cA:=0,Start:=0,End:=0,Array:=0 }
def find_row{l:List aJ}(hl:l.length<=300)(hs:bU l)(id:Int):bQ (zaM 5000 l id) λr=>(r.2=true↔∃j∈l,j.Id=id)/\(r.2=true->At l id r.1):=by
 unfold zaM;rw[ki];refine half hl hs id (λj=>some (decide (j.Id<id))) (λj hj=>rfl) (λi=>some i) (λi hi d g=>?_) _ (λf x=>?_)
 ·rw[aY,bq];refine ⟨λh=>?_,λh=>?_⟩
  ·simp only[bz] at h;have a:i<l.length:=by omega
   rw[bY a,aw,aY];simp only[lA];refine ⟨⟨λe=>⟨_,bA a,e⟩,λ⟨j,b,e⟩=>?_⟩,λe=>⟨by omega,by omega,by simp_all⟩⟩;obtain ⟨k,hk,rfl⟩:=iM b;rcases Wh k i with q | q | q
   ·grind
   ·simp_all
   ·have:=hs.lt q hk;grind
  ·simp only[bz] at h;simp only[aY,b_,FH,false_implies,NT]
   grind [List.getElem_of_mem]
 grind
section
variable{l:List aJ}
def Hz(hl:l.length<=300)(hs:bU l){k:Nat}(hk:k<l.length):zaM 5000 l l[k].Id=some ((k:Int),true):=by obtain ⟨⟨r,b⟩,e,d,f⟩:=find_row hl hs l[k].Id;have hb:b=true:=d.2 ⟨_,bA hk,rfl⟩;subst hb;have a:At l l[k].Id r:=f rfl;have:=hs.inj a.hi hk a.is;have:=a.lo;rw[e,show r=(k:Int) by omega]
def uz{j:aJ}(h:dh j):zeQ 5000 j=some true:=by obtain ⟨r,e,q⟩:=BN j;rw[e,q.2 h]
def OU(hs:bU l){k:Nat}(hk:k<l.length){j:aJ}(d:j.Id=l[k].Id):bU (l.set k j):=by
 have a:∀i (h:i<l.length),((l.set k j)[i]'(by simp_all)).Id=l[i].Id:=λi h=>by grind
 intro i hi;have b:i+1<l.length:=by simp_all
 rw[a i (by omega),a (i+1) b];exact hs i b
end
def QW(x:Int):Int:=if x≥281474976710656 then 0 else x+1
def KU{x:Int}(h:0<=x):ke 5000 x=some (QW x):=by
 unfold ke QW;simp only[bz]
 grind [wr]
def rM(Q:List Int)(q:Int):List Int:=if 0<=q/\q<Q.length then Q.set q.toNat (QW (Q[q.toNat]?.getD 0)) else Q
theorem QX(Q:List Int)(q:Int):(rM Q q).length=Q.length:=by grind [rM]
def p_(Q:List Int):Prop:=∀x∈Q,0<=x/\x<=281474976710656
def Ta{x:Int}(h:0<=x/\x<=281474976710656):0<=QW x/\QW x<=281474976710656:=by grind [QW]
theorem GI{Q:List Int}(h:p_ Q)(q:Int):p_ (rM Q q):=by
 unfold rM;split
 ·rename_i hq;have hl:q.toNat<Q.length:=by omega
  intro x a;rcases yCq a with e | e
  ·exact h x e
  ·subst e;rw[dW hl];exact Ta (h _ (bA hl))
 ·exact h
def MM{Q:List Int}(h:p_ Q)(q:Int):zbf 5000 Q q=some (rM Q q):=by
 unfold zbf rM;by_cases hq:0<=q/\q<Q.length
 ·rw[if_pos (by simp_all),if_pos hq];obtain ⟨a,e⟩:=AV (l:=Q) hq.1 hq.2;rw[e,aw,KU (h _ (bA a)).1,aw,aw,dW a];rfl
 grind
def ou(Q:List Int)(a b:Int):List Int:=if b=a then rM Q a else rM (rM Q a) b
def LB(Q:List Int)(a b:Int):(ou Q a b).length=Q.length:=by grind [ou,QX]
def PT{Q:List Int}(h:p_ Q)(a b:Int):p_ (ou Q a b):=by grind [ou,GI]
section
variable{l:List aJ}
def Dy(x:Int):Prop:=x=1\/x=2
instance (x:Int):Decidable (Dy x):=by unfold Dy;infer_instance
theorem Qo(x:Int):jd 5000 x=some (decide (Dy x)):=by unfold jd;congr 1;rw[Bool.eq_iff_iff];rw[bz];simp only[gE,lA,Dy]
end
structure XG (st:bZ):Prop where
 bm:st.ah.length<=300
 after:∀j∈st.ah,j.aE.length<=10
 cr:st.ai.length<=300
 asc:Ai st.ai
 ids:∀a∈st.ai,0<=a.bj/\a.bj<=1048576
 sh:∀a∈st.ai,a.aj.length<=300
 cF:st.aA.length<=20
 use:st.eJ.length<=20
 stamps:st.az.aq.length<=20
def En{s:aX}{st:bZ}(hw:kF s st)(q:aS s st):XG st:=
 ⟨hw.bm,hw.after,hw.cr,AZ q,HZ q,hw.sh,hw.cF,hw.use,hw.stamps⟩
def LY{st:bZ}(h:XG st) :
  Tg 5000 st.az.aq st.ah (st.ai.map λa=>(a.bj,a)) st.aO st.Next st.dr st.aA st.eJ st.az.am=some st:=by
 have hl:=h.bm;have hb:=h.cF;have b:=h.use;have hs:=h.stamps;unfold Tg;rw[MV (by omega) h.after,aw,show aZ 5000 (st.ai.map λa=>(a.bj,a))=some st.ai from DJ h.cr h.asc h.ids h.sh,aw,Cn (by omega),aw,qL (by omega),aw,show zb4 5000 st.az.aq=some st.az.aq from Eh (by omega),aw]
def PW{st:bZ}(h:XG st):zbQ 5000 st st=some true:=by have a:=h.bm;have b:=h.use;have d:=h.stamps;have e:=h.cF;unfold zbQ;rw[if_pos (by simp),HE _ (by omega) h.after,aw,if_pos rfl,B_ _ h.cr h.sh,aw,if_pos rfl,DD _ (by omega),aw,if_pos rfl,vZ _ (by omega),aw,if_pos rfl,vZ _ (by omega),aw];simp
section
variable{l:List aJ}
def get_some(hl:l.length<=300)(hs:bU l){k:Nat}(hk:k<l.length)(a:l[k].aE.length<=1000):zbZ 5000 l l[k].Id=some (l[k],true):=by unfold zbZ;rw[Hz hl hs hk,aw];simp only[Ot,b_,cw];rw[bY hk,aw,Dk (by omega),aw]
def ZU(hl:l.length<=300)(hs:bU l){k:Nat}(hk:k<l.length)(a:l[k].aE.length<=1000):zc1 5000 l l[k].Id=some (l[k],true):=by unfold zc1;rw[get_some hl hs hk a,aw]
end
def KX(st:bZ)(id:Int):aJ:=(st.ah.find? λj=>j.Id == id).getD zeroJ
def jobOf_eq{st:bZ}(hs:bU st.ah){i:Nat}(hi:i<st.ah.length):KX st st.ah[i].Id=st.ah[i]:=by
 unfold KX;obtain ⟨j,e⟩:∃j,st.ah.find? (λj=>j.Id == st.ah[i].Id)=some j:=by
  cases h:st.ah.find? (λj=>j.Id == st.ah[i].Id) with
  |some j=>simp_all
  |none=>
   have:=List.find?_eq_none.1 h _ (bA hi)
   simp_all
 rw[e,OE];have a:=List.find?_some e;simp only[lA] at a;obtain ⟨k,hk,rfl⟩:=iM (yBB e);have:=hs.inj hk hi a
 simp_all
def uc(st:bZ)(a:bW):Int:=(KX st a.bj).Start+(KX st a.bj).aR
def e_(st:bZ)(a:bW):EG:={ bT:=st.aO,To:=uc st a,ay:=a.ay,aj:=a.aj }
def dw(s:aX)(st:bZ):jS:={ S:=s,aO:=st.aO,L:=st.ai.map (e_ st),aA:=st.aA }
section
variable{s:aX}{st:bZ}(hw:kF s st)(q:aS s st)
include hw q
theorem lV{a:bW}(b:a∈st.ai):∃i,∃h:i<st.ah.length,st.ah[i].Id=a.bj/\fj s st st.ah[i] a/\tj st.ah[i]=true/\KX st a.bj=st.ah[i]:=by obtain ⟨j,hj,P⟩:=eS.mem q.cr a b;obtain ⟨d,e⟩:=Gp.1 hj;obtain ⟨i,hi,rfl⟩:=iM d;exact ⟨i,hi,P.Fx.symm,P,e,by rw[P.Fx];exact jobOf_eq q.bm.bH hi⟩
theorem Fq{a:bW}(b:a∈st.ai):st.aO<uc st a/\uc st a<=st.aO+65536:=by
 obtain ⟨i,hi,_,P,_,e⟩:=lV hw q b;have j:=q.bm.each _ (bA hi);have d:=P.now;have f:=j.start;have g:=j.ok.wall
 grind [uc]
omit hw q in
theorem Ls{H:List aJ}{A:List bW}{F:List aF}(h:eS s st H A F):A.length=H.length:=by
 induction H generalizing A F with
 |nil=>rw[show A=[] from h];rfl
 |cons j H ih=>obtain ⟨b,a,rfl,_,_,d⟩:=h;grind
theorem mL:st.ai.length<=st.ah.length:=by rw[Ls q.cr];grind
omit hw q in
theorem Bw(L:List EG)(k t:Int)(c:Nat):cmp c (bn L k t)=(L.map λu=>cmp c (ko u k t)).sum:=by
 have:∀(L:List EG)(r:aF),cmp c (L.foldl (λr u=>BA r (ko u k t)) r)=cmp c r+(L.map λu=>cmp c (ko u k t)).sum:=by
  intro L;induction L with
  |nil=>simp_all
  |cons u L ih=>grind [vU]
 grind [bn.eq_1,Oe]
omit hw q in
theorem caps_of{H:List aJ}{A:List bW}{F:List aF}(h:eS s st H A F)(g:∀r∈F,aN r)(a:∀j∈H,aN j.ay)(k:Nat)(hk:k<F.length)(t:Int)(c:Nat):((A.map (e_ st)).map λu=>cmp c (ko u k t)).sum<=cmp c F[k]:=by
 induction H generalizing A F with
 |nil=>
  rw[show A=[] from h]
  grind [v_,List.getElem_mem]
 |cons j H ih=>
  obtain ⟨b,m,rfl,P,d,e⟩:=h;have hl:k<(kT F b).length:=by grind [zeM]
  have:=ih e (vr d) (λi hi=>a i (o_ _ hi)) hl;rw[np hl] at this;unfold qw at this;rw[Co] at this;rw[rS,rS,List.sum_cons];have le:cmp c (ko (e_ st b) k t)<=cmp c (mulR (dM b.aj k) b.ay):=by
   unfold ko;split
   ·exact MG _
   ·rw[Oe];rw[A_];have o:=yi (l:=b.aj) (λx f=>by have:=(P.kM.shares.mem x f);omega) k;rw[P.need];exact yBT o (v_.1 (a j (qY ..)) c).1
  omega
theorem LM:∀u∈(dw s st).L,rF u s.am.length:=λu f=>by
 obtain ⟨a,d,rfl⟩:=iX.1 f;obtain ⟨i,hi,_,P,_,e⟩:=lV hw q d;have j:=q.bm.each _ (bA hi);have b:=Fq hw q d;have n:=q.nums.now;refine ⟨P.kM.shares,hw.sh a d,?_,n.1,?_⟩
 ·show aN a.ay;rw[P.need];exact j.ok.need
 ·show uc st a<=_;omega
theorem JI(a:st.ah.length<=30):qd (dw s st):={
 spec:=q.spec
 now:=q.nums.now
 cF:=q.iy.cF
 used:=LM hw q
 xR:=by have:=mL hw q;show (st.ai.map (e_ st)).length<=100;grind }
theorem Zd(f:st.ah.length<=30):Xh (dw s st):={
 ref:=JI hw q f
 lo:=λu hu=>by obtain ⟨a,d,rfl⟩:=iX.1 hu;exact ⟨rfl,(Fq hw q d).1⟩
 caps:=λi k hk t c=>by
  have n:=caps_of q.cr q.spec.nodes.ok (λj hj=>(q.bm.each j (Gp.1 hj).1).ok.need) k hk t c;rw[Bw];show ((((st.ai.map (e_ st)).take i)).map λu=>cmp c (ko u k t)).sum<=cmp c s.am[k];have o:((st.ai.map (e_ st)).map λu=>cmp c (ko u k t)).sum=(((st.ai.map (e_ st)).take i).map λu=>cmp c (ko u k t)).sum+(((st.ai.map (e_ st)).drop i).map λu=>cmp c (ko u k t)).sum:=by grind [List.take_append_drop]
  have K:0<=(((st.ai.map (e_ st)).drop i).map λu=>cmp c (ko u k t)).sum:=by
   have:∀M:List EG,(∀u∈M,rF u s.am.length)->0<=(M.map λu=>cmp c (ko u k t)).sum:=by
    intro M;induction M with
    |nil=>simp_all
    |cons u M ih=>
     intro h;have:=ih λv p=>h v (o_ _ p);have:=Jb (h u (qY ..)) k t c
     grind
   exact this _ λu hu=>LM hw q u (yBp hu)
  omega
 live:=λb hb=>(q.iy.live b hb).2
 zk:=λb hb t n o=>Oy λc=>by
  rw[Bw,Oe];show ((st.ai.map (e_ st)).map λu=>cmp c (ko u b.Node t)).sum=0;have:∀x∈(st.ai.map (e_ st)).map λu=>cmp c (ko u b.Node t),x=0:=λx r=>by
   obtain ⟨u,hu,rfl⟩:=iX.1 r;obtain ⟨a,d,rfl⟩:=iX.1 hu;obtain ⟨i,hi,A,P,_,e⟩:=lV hw q d;by_cases g:∃y∈a.aj,y.Node=b.Node
   ·obtain ⟨y,E,G⟩:=g;have:=q.iy.zk a d _ (bA hi) A y E b hb G.symm;unfold ko;rw[if_neg,Oe];show ¬(st.aO<=t/\t<uc st a)
    grind [uc]
   ·have z:dM a.aj b.Node=0:=by
     grind [zL]
    unfold ko;split
    ·show cmp c (mulR (dM a.aj b.Node) a.ay)=0
     grind [A_]
    grind [Oe]
  have m:∀M:List Int,(∀x∈M,x=0)->M.sum=0:=by
   intro M;induction M with
   |nil=>simp_all
   |cons x M ih=>simp_all
  simp_all }
theorem UR{i:Nat}(hi:i<st.ah.length)(h:tj st.ah[i]=true):vV 5000 st.ah[i]=some (st.ah[i].Start+st.ah[i].aR):=by have j:=q.bm.each _ (bA hi);have a:=j.ok.wall;have b:=j.ok.start;unfold vV Pm;rw[eE,uz j.ok,aw,if_neg (by simp),aw];dsimp only;unfold tj at h;rw[h,if_neg (by simp),wr (by omega) (by omega)]
theorem oZ(b:st.ah.length<=30){g:List (Int×bW)}(h:Tg 5000 st.az.aq st.ah g st.aO st.Next st.dr st.aA st.eJ st.az.am=some st):∃nodes,zct 5000 st.az.aq st.ah g s.am s.aG s.aq s.aP s.ae.fM s.ae.cu s.ae.dL s.ae.br s.bN s.Mode s.ah s.iN s.aI s.bg s.cV s.In s.Out s.bO st.aO st.Next st.dr st.aA st.eJ st.az.am=some (.inr (nodes,st.aO,s.aG))/\PR nodes (dw s st) (1+2 * (st.ai.length+st.aA.length)):=by
 have hl:=hw.bm;have t:=hw.cr;obtain ⟨r,e,nodes,rfl,hp⟩:=Mq (Zd hw q b);have m:(dw s st).L.length=st.ai.length:=vR ..;rw[m] at hp;refine ⟨nodes,?_,hp⟩;unfold zct;rw[h,aw];have z:Dl ({ ay:=({ bI:=0,Mem:=0,bM:=0,bR:=0 }:aF),aj:=[],nM:=0 }:jB) 0 (st.ai.length:Int)=some []:=by
  unfold Dl
  grind
 rw[z,aw];refine bQ.eq (iL st.ai.length (λi x=>x=((i:Int),(st.ai.take i).map λa=>eI (e_ st a))) (λi x f hi d n=>?_) (λx f d=>?_) rfl (by omega))
 ·subst d;have o:=bA hi;obtain ⟨k,hk,p,P,hj,u⟩:=lV hw q o;dsimp only;rw[if_pos (cS hi),bY hi,aw,<-p,ZU hl q.bm.bH hk (by have:=hw.after _ (bA hk);omega),aw,UR hw q hk hj,aw,ze (by grind),aw,bV (show i<1000000 by omega)];refine n _ ?_;rw[Hw hi,yBX];have:eI (e_ st st.ai[i])={ ay:=st.ai[i].ay,aj:=st.ai[i].aj,nM:=st.ah[k].Start+st.ah[k].aR }:=by
   grind [eI,e_,uc]
  simp_all
 ·subst d;dsimp only;rw[if_neg (by simp),jt hw.spec,aw,xB];have:(st.ai.map λa=>eI (e_ st a))=(dw s st).L.map eI:=by show _=(st.ai.map (e_ st)).map eI;simp_all
  rw[this];have v:zeK 5000 ((dw s st).L.map eI) s st.aO st.aA=some (.inr (nodes,st.aO,s.aG)):=e
  grind [aY]
end
def few30P(s:aX)(st:bZ):bQ (zcL 5000 s st) λr=>r=true->st.ah.length<=30:=by
 simp only[zcL,eE];refine (few07 s).bind λr b=>?_;simp only[if_true,aY,bq];refine ⟨by simp,λh=>?_⟩;refine (few17 st.ah).bind λd a=>?_;simp only[bq,aY];refine ⟨by simp,λh=>?_⟩;simp only[gE,bz,not_or,Int.not_lt,hZ,nI] at h;obtain ⟨⟨⟨⟨h,e⟩,g⟩,k⟩,m⟩:=h;have n:=a h;refine xX st.ai (λ_ q=>True) (λi f h _ b=>?_) (λf hq=>?_) (by omega)
 ·simp only[cS h,if_true,bY h,aw,bV (show i<1000000 by omega),bq,aY,bz]
  simp_all
 ·simp only[eR,b_,cw,aY];omega
def bX(s:aX)(j:aJ):CJ:={ Part:=((s.aq[j.Queue.toNat]?).getD default).Part,aL:=j.aL,ay:=j.ay,aR:=j.aR }
def qp{s:aX}{j:aJ}(hq:0<=j.Queue/\j.Queue<s.aq.length):∃h:j.Queue.toNat<s.aq.length,aD s.aq j.Queue=some s.aq[j.Queue.toNat]/\bX s j={ Part:=s.aq[j.Queue.toNat].Part,aL:=j.aL,ay:=j.ay,aR:=j.aR }:=by grind [AV,bX]
def qu{s:aX}{st:bZ}{q:jS}(k:ba s)(eq:q.S=s){j:aJ}(h:gq s st j):fX q (bX s j):=by obtain ⟨a,_,e⟩:=qp ⟨h.ok.queue.1,h.queue⟩;have b:=k.eH.ok _ (bA a);have m:=h.ok.many;rw[e];exact ⟨by rw[eq];exact b.part,by grind,h.ok.need,h.ok.rZ,h.ok.wall⟩
def named(j:aJ)(r:iO×Bool):iO×Bool:=if r.2=true then ({ bj:=j.Id,At:=r.1.At,aj:=r.1.aj },true) else ({ bj:=0,At:=0,aj:=[] },false)
section
variable{nodes:List (List bS)}{q:jS}{L:Nat}(hL:L<=200)(hq:qd q)(hp:PR nodes q L){st:bZ}{j:aJ}(hj:gq q.S st j)
include hL hq hp hj
end
section
variable{nodes:List (List bS)}{q:jS}{L:Nat}(hL:L<=200)(hq:qd q)(hp:PR nodes q L){w:CJ}(hw:fX q w)
include hL hq hp hw
end
def Ka{l:List dk}{n:Int}(h:bo l n){y:dk}(hl:∀x∈l,x.Node<y.Node)(a:0<=y.Node/\y.Node<n)(hm:1<=y.aL/\y.aL<=64):bo (l++[y]) n:=λi hi=>by
 rw[zJ,xAe] at hi;by_cases g:i<l.length
 ·have s:=h i g;have e:(l++[y])[i]'(by omega)=l[i]:=yCy g;rw[e];refine ⟨?_,s.lt,s.lo,s.hi⟩;have:KN ((l++[y]).map (·.Node)) i=KN (l.map (·.Node)) i:=by
   cases i with
   |zero=>rfl
   |succ i=>grind [qJ]
  rw[this];exact s.up
 ·have b:i=l.length:=by omega
  subst b;have e:(l++[y])[l.length]'(by simp)=y:=by simp
  rw[e];refine ⟨?_,a.2,hm.1,hm.2⟩;cases d:l.length with
  |zero=>show (-1:Int)<y.Node;omega
  |succ i=>grind [qJ]
section
variable{F:List aF}{l:List Int}{need:aF}(hP:po F l)(hR:mC l F.length)(hn:aN need)(hz:need≠bK)
include hP hR hn hz
structure QJ (F:List aF) (need:aF) (l:List Int) (x:Int×List dk) (many:Int):Prop where
 shares:bo x.2 F.length
 mem:∀y∈x.2,y.Node∈l/\y.aL<=dK (jj F y.Node) need
 Us:x.1+ky x.2=many
 left:x.1=if many<=cO F l need then 0 else many-cO F l need
theorem Qt{many:Int}(hm:1<=many)(i:Nat):QJ F need (l.take i) (rR F need (l.take i) many) many:=by
 induction i with
 |zero=>refine ⟨λi h=>by grind [rR],λy a=>by grind [rR],by simp[rR,ky],?_⟩;simp only[rR,List.take_zero,List.foldl_nil,cO,List.map_nil,List.sum_nil];omega
 |succ i ih=>
  by_cases hi:i<l.length
  ·have c:=nR hP hn (bA hi);have st:=tW hP hn hz hi many;have rs:=yb hP hn hz hi;have up:∀n∈l.take i,n<l[i]:=λn d=>by
    obtain ⟨j,hj,rfl⟩:=OA.1 d;rw[BZ] at hj;rw[Rk];have:∀m,j<m->∀(hm:m<l.length),l[j]<l[m]:=by
     intro m;induction m with
     |zero=>omega
     |succ m f=>
      intro g hm;have s:=(hR (m+1) hm).1
      grind [pA]
    grind
   have b:∀n,n∈l.take (i+1)↔n∈l.take i\/n=l[i]:=λn=>by rw[Hw hi,kL,zV]
   have k:=ih.left;have o:=yy hP hn hz (i:=i);rw[st];generalize rR F need (l.take i) many=x at *;have p:0<=x.1:=by omega
   unfold plS;by_cases q:Hv x.1 (dK (jj F l[i]) need)=0
   ·rw[if_pos q];refine ⟨ih.shares,λy a=>⟨(b _).2 (.inl (ih.mem y a).1),(ih.mem y a).2⟩,ih.Us,?_⟩
    grind [Hv]
   ·rw[if_neg q];have hb:=hP.node _ (bA hi);have e:1<=Hv x.1 (dK (jj F l[i]) need)/\Hv x.1 (dK (jj F l[i]) need)<=64/\Hv x.1 (dK (jj F l[i]) need)<=dK (jj F l[i]) need:=by
     unfold Hv at q ⊢;omega
    refine ⟨Ka ih.shares (λy a=>up _ (ih.mem y a).1) hb ⟨e.1,e.2.1⟩,λy a=>?_,?_,?_⟩
    ·rcases kL.1 a with a | a
     ·exact ⟨(b _).2 (.inl (ih.mem y a).1),(ih.mem y a).2⟩
     simp_all
    ·grind [QJ.Us,ky]
    grind [Hv]
  grind [List.take_of_length_le]
theorem UZ{many:Int}(h:(BW F l many need).2=true):bo (BW F l many need).1 F.length/\ky (BW F l many need).1=many/\(∀y∈(BW F l many need).1,y.Node∈l)/\∀(n:Nat)(hn:n<F.length),xK (mulR (dM (BW F l many need).1 n) need) F[n]\/dM (BW F l many need).1 n=0:=by
 obtain ⟨m,u⟩:=vG.1 h;have P:=Qt hP hR hn hz m l.length;rw[xB] at P;have e:BW F l many need=((rR F need l many).2,true):=by unfold BW;simp_all
 rw[e];have z:=P.left;rw[if_pos u] at z;refine ⟨P.shares,by grind [QJ.Us],λy f=>(P.mem y f).1,λn p=>?_⟩;dsimp only;by_cases g:∃y∈(rR F need l many).2,y.Node=(n:Int)
 ·left;obtain ⟨y,f,v⟩:=g;obtain ⟨m1,r⟩:=P.mem y f;obtain ⟨i,hi,rfl⟩:=iM f;have o:=Kl P.shares hi;rw[v] at o m1 r;have x:jj F (n:Int)=F[n]:=zM p;have t:=hP.Yx _ m1;rw[x] at r t;have k:=vF t hn;rw[o];have d:∀a b:Int,(a,b)∈FE F[n] need->0<=b->(rR F need l many).2[i].aL * b<=a:=λa b A hb=>by
   have m:=k.fit _ A;dsimp only at m;have:(rR F need l many).2[i].aL * b<=dK F[n] need * b:=yAY r hb;omega
  intro c;rw[A_]
  match c with
  |0=>exact d _ _ (by simp[FE];exact .inl ⟨rfl,rfl⟩) hn.FL.1
  |1=>exact d _ _ (by simp[FE];exact .inr (.inl ⟨rfl,rfl⟩)) hn.mem.1
  |2=>exact d _ _ (by simp[FE];exact .inr (.inr (.inl ⟨rfl,rfl⟩))) hn.KD.1
  |_+3=>exact d _ _ (by simp[FE];exact .inr (.inr (.inr ⟨rfl,rfl⟩))) hn.KP.1
 grind [zL]
end
def qf(q:jS)(u:EG):jS:={ q with L:=q.L++[u] }
open Classical in
def VG(q:jS)(u:EG)(k t:Int):bC (qf q u) k t=if Fw q.aA k t then bK else fD (fD (jj q.S.am k) (bn q.L k t)) (ko u k t):=by
 unfold bC qf;dsimp only;by_cases h:Fw q.aA k t
 ·simp_all
 ·rw[if_neg h,if_neg h,mT,Ht]
def mulR_le{n:Int}{need v:aF}(hn:0<=n)(a:aN need)(h:xK (mulR n need) v\/n=0)(b:aN v):xK (mulR n need) v:=by
 rcases h with h | h
 ·exact h
 ·intro c
  grind [v_,A_]
def He{nodes:List (List bS)}{q:jS}{L:Nat}(hL:L<=200)(hq:qd q)(hp:PR nodes q L){cN a:Int}{sh:List dk}{need:aF}(hs:bo sh q.S.am.length)(hn:aN need)(hw:1<=a/\a<=65536)(A:q.aO<=cN)(σ:cN<=1099511627776)
  (d:∀(k:Nat)(h:k<q.S.am.length) t,cN<=t->t<cN+a->xK (mulR (dM sh k) need) (bC q k t)) :
  ∃b,za3 5000 nodes cN sh need a q.aO=some (b,0)/\PR b (qf q { bT:=cN,To:=cN+a,ay:=need,aj:=sh }) (L+2):=by
 have i:=hp.len;have nn:=hq.spec.nodes.hi;have E:=hq.now;have sl:sh.length<=300:=by have:=ru hs (by omega);omega
 obtain ⟨Z,G,K⟩:=nV sh nodes.length sl;have:=K.2 (by simp_all);subst this;obtain ⟨r2,M,N⟩:=Up need;have:=N.2 hn;subst this;obtain ⟨r,e,O,P,p⟩:=Cm (by omega) hp.cN (by omega) (by simp_all) sl hn A (show cN<cN+a by omega) (by omega) λk hk t v ta tb Q=>by
  rw[(hp.iff hk (by omega)).1 Q]
  grind
 refine ⟨r.1,?_,?_⟩
 ·unfold za3;rw[eE,if_neg (by simp_all),G,aw,if_neg (by simp),M,aw];have R:decide (a<1)=false:=by simp_all
  have U:decide (a > 65536)=false:=by simp_all
  dsimp only;rw[R,U,if_neg (by simp),wr (x:=cN+a) (by omega) (by omega),e,aw,O]
 ·refine ⟨by rw[P,i];rfl,⟨λk hk=>?_,λk hk W=>?_⟩,λk hk t X=>?_⟩
  ·have T:=p k (by omega) hk;exact ⟨T.ok,by have:=T.len;have:=(hp.cN.each k (by omega)).2;omega⟩
  ·have T:=p k (by omega) hk;have z:=(hp.cN.each k (by omega)).1.ne;rw[T.first z W,hp.cN.first k (by omega) z];rfl
  ·have n:k<nodes.length:=by omega
   have T:=p k n hk;have u:q.aO<=t:=X;have v:=T.val t _ (hp.val k n t u);rw[VG];by_cases g:cN<=t/\t<cN+a
   ·rw[if_pos g] at v;have y:ko { bT:=cN,To:=cN+a,ay:=need,aj:=sh } k t=mulR (dM sh k) need:=by unfold ko;simp_all
    rw[y];by_cases m:Fw q.aA k t
    ·rw[if_pos m];have o:bC q k t=bK:=by unfold bC;simp_all
     have f:=d k (by omega) t g.1 g.2;rw[o] at f v;have:fD bK (mulR (dM sh k) need)=bK:=Oy λc=>by
      have h2:=f c;have h3:=gF (rz hs k) (v_.1 hn c)
      grind [Co,Oe,A_]
     simp_all
    ·rw[if_neg m];have o:bC q k t=fD (jj q.S.am k) (bn q.L k t):=by unfold bC;simp_all
     simp_all
   ·rw[if_neg g] at v;have y:ko { bT:=cN,To:=cN+a,ay:=need,aj:=sh } k t=bK:=by unfold ko;grind
    rw[y];by_cases m:Fw q.aA k t
    ·rw[if_pos m];have o:bC q k t=bK:=by unfold bC;simp_all
     simp_all
    ·rw[if_neg m];have o:bC q k t=fD (jj q.S.am k) (bn q.L k t):=by unfold bC;simp_all
     rw[o] at v;have:fD (fD (jj q.S.am k) (bn q.L k t)) bK=fD (jj q.S.am k) (bn q.L k t):=Oy λc=>by simp only[Co,Oe];omega
     simp_all
end Go.Plain
end
section
namespace Go.Plain
open Go.Abs
abbrev K3:=Int×Int×Int
def FI(u v:K3):Prop:=u.1<v.1\/(u.1=v.1/\(u.2.1<v.2.1\/(u.2.1=v.2.1/\u.2.2<v.2.2)))
instance (u v:K3):Decidable (FI u v):=by unfold FI;infer_instance
theorem cmp1{N:Nat}(a b:Int):fJ N a b=some (if a<b then -1 else if a > b then 1 else 0):=by
 simp only[fJ,cmp_isNaN_int,aw];simp;split
 ·rfl
 ·split <;> rfl
def cmp3{N:Nat}(E:4<N)(u v:K3):bQ (zaA N ([u.1,u.2.1,u.2.2]:List Int) ([v.1,v.2.1,v.2.2]:List Int)) λr=>(r<0↔FI u v):=by
 obtain ⟨N,rfl⟩:∃M,N=M+5:=⟨N-5,by omega⟩;obtain ⟨a,b,c⟩:=u;obtain ⟨d,e,f⟩:=v;unfold zaA;have o:i64.wrap (0+1)=1:=rfl;have w1:i64.wrap (1+1)=2:=rfl;have w2:i64.wrap (2+1)=3:=rfl;have p:∀x y z:Int,aD [x,y,z] 0=some x:=λ_ _ _=>rfl;have t:∀x y z:Int,aD [x,y,z] 1=some y:=λ_ _ _=>rfl;have A:∀x y z:Int,aD [x,y,z] 2=some z:=λ_ _ _=>rfl;simp only[bB,FA,yBG,cmp1,aw,o,w1,w2,p,t,A,FI];simp;by_cases g:a<d
 ·rw[if_pos g];simp[aY];omega
 ·rw[if_neg g];by_cases h:d<a
  ·rw[if_pos h];simp[aY];omega
  ·rw[if_neg h];by_cases i:b<e
   ·rw[if_pos i];simp[aY];omega
   ·rw[if_neg i];by_cases k:e<b
    ·rw[if_pos k];simp[aY];omega
    ·rw[if_neg k];by_cases m:c<f
     ·rw[if_pos m];simp[aY];omega
     ·rw[if_neg m];by_cases n:f<c
      ·rw[if_pos n];simp[aY];omega
      ·rw[if_neg n];simp[aY];omega
def Oz(p:List K3)(x:Int):K3:=p.getD x.toNat (0,0,0)
def Pj(p:List K3)(x:Int):Prop:=0<=x/\x<p.length
def Yn{p:List K3}{x:Int}(h:Pj p x):aD p x=some (Oz p x):=by obtain ⟨a,e⟩:=AV h.1 h.2;rw[e,Oz,Vo,dW a];rfl
def Dm{N:Nat}(d:4<N){p:List K3}{x y:Int}(e:Pj p x)(f:Pj p y) :
  bQ ((aD p x).bind λa=>(aD p y).bind λb=>(zaA N ([a.1,a.2.1,a.2.2]:List Int) ([b.1,b.2.1,b.2.2]:List Int)).bind λr=>some r) λr=>(r<0↔FI (Oz p x) (Oz p y)):=by
 rw[Yn e,Yn f,aw,aw];exact (cmp3 d _ _).bind λr g=>aY.2 g
def dQ{α:Type}{L R:List α}{y:α}{i:Int}(h:i=L.length):aD (L++y::R) i=some y:=by subst h;rw[bY (by simp)];simp
def iG{α:Type}{L R:List α}{y z:α}{i:Int}(h:i=L.length):(L++y::R).set i.toNat z=L++z::R:=by subst h;simp
def As{x y:Int}(h:x=y)(a:-9000000<=y)(b:y<9000000):i64.wrap x=y:=by rw[wr (by omega) (by omega)];exact h
theorem up_ok{N:Nat}{L V R:List Int}{y:Int}{k E:Int}(hk:k=L.length)(t:E=L.length+V.length)(O:V.length<N)(hs:(L++y::V++R).length<=1000) :
  bB (λh (d:Int×List Int)=>
     if (decide (d.1<E))=true then
      (aD d.2 (i64.wrap (d.1+1))).bind λe=>
      (aD d.2 d.1).bind λi=>
      (aD d.2 d.1).bind λu=>
      (aD (d.2.set d.1.toNat e) (i64.wrap (d.1+1))).bind λz=>
      h ((i64.wrap (d.1+1)),((d.2.set d.1.toNat e).set (i64.wrap (d.1+1)).toNat i))
     else
      some d.2) N (k,L++y::V++R)=some (L++V++y::R):=by
 apply bQ.eq;simp only[zJ,FA] at hs;refine lpM (I:=λx=>∃b g,x=((b.length:Int),b++y::g++R)/\b++g=L++V/\E=b.length+g.length) (m:=λx=>(E-x.1).toNat) (λx f A G=>?_) ⟨L,V,by rw[hk],rfl,t⟩ (by omega);obtain ⟨b,g,rfl,n,o⟩:=A;have p:=Ig List.length n;simp only[zJ] at p;cases g with
 |nil=>simp only[yBG] at o;rw[if_neg (by simp;omega),aY,<-n];simp
 |cons v a=>
  simp only[FA] at o p;have w:i64.wrap ((b.length:Int)+1)=((b++[y]).length:Nat):=As (by simp) (by simp;omega) (by simp;omega);have K:b++y::v::a++R=(b++[y])++v::(a++R):=by simp
  have r:b++y::v::a++R=b++y::(v::a++R):=by simp
  have M:b++v::(v::a++R)=(b++[v])++v::(a++R):=by simp
  simp only;rw[if_pos (by simp;omega),w,show aD (b++y::v::a++R) ((b++[y]).length:Nat)=some v from by rw[K];exact dQ rfl,yA,
   show aD (b++y::v::a++R) (b.length:Int)=some y from by rw[r];exact dQ rfl,Option.bind_some,Option.bind_some,r,iG rfl,M,dQ (by simp),Option.bind_some,iG (by simp)]
  refine G _ ⟨b++[v],a,by simp,by rw[<-n];simp,by simp;omega⟩ (by simp;omega)
def dn_ok{N:Nat}{L V R:List Int}{y:Int}{k E:Int}(hk:k=L.length+V.length)(G:E=L.length)(K:V.length<N)(hs:(L++V++y::R).length<=1000) :
  bB (λi (a:Int×List Int)=>
      if (decide (a.1 > E))=true then
       (aD a.2 (i64.wrap (a.1-1))).bind λe=>
       (aD a.2 a.1).bind λn=>
       (aD a.2 a.1).bind λp=>
       (aD (a.2.set a.1.toNat e) (i64.wrap (a.1-1))).bind λr=>
       i ((i64.wrap (a.1-1)),((a.2.set a.1.toNat e).set (i64.wrap (a.1-1)).toNat n))
      else
       some a.2) N (k,L++V++y::R)=some (L++y::V++R):=by
 apply bQ.eq;simp only[zJ,FA] at hs;refine lpM (I:=λx=>∃g d,x=(((L++g).length:Int),L++g++y::d)/\g++d=V++R) (m:=λx=>(x.1-E).toNat) (λx f t u=>?_) ⟨V,R,by rw[hk];simp,rfl⟩ (by simp;omega);obtain ⟨g,d,rfl,h⟩:=t;have o:=Ig List.length h;simp only[zJ] at o;rcases List.eq_nil_or_concat g with rfl | ⟨b,v,rfl⟩
 ·rw[if_neg (by simp;omega),aY];simp at h;rw[h];simp
 ·simp only[yCk,zJ,FA,yBG] at o h ⊢;have w:i64.wrap (((L.length+(b.length+(0+1)):Nat):Int)-1)=((L++b).length:Nat):=As (by simp;omega) (by simp;omega) (by simp;omega);have z:L++(b++[v])++y::d=(L++b)++v::(y::d):=by simp
  have M:L++(b++[v])++y::d=(L++(b++[v]))++y::d:=rfl;have A:(L++(b++[v]))++v::d=(L++b)++v::(v::d):=by simp
  rw[if_pos (by simp;omega),w,show aD (L++(b++[v])++y::d) ((L++b).length:Nat)=some v from by rw[z];exact dQ rfl,yA,
   dQ (by simp),Option.bind_some,Option.bind_some,iG (by simp),A,dQ (by simp),Option.bind_some,iG (by simp)]
  refine u _ ⟨b,v::d,by simp,by rw[<-h];simp⟩ (by simp;omega)
theorem XU{N:Nat}{L U M V R:List Int}{a b n:Int}(ha:a=L.length)(hb:b=L.length+U.length+M.length)(hn:n=U.length)(E:V.length=U.length)(hN:U.length<N)(hs:(L++U++M++V++R).length<=1000) :
  bB (λr (d:Int×List Int)=>
          if (decide (d.1<n))=true then
           (aD d.2 (i64.wrap (b+d.1))).bind λp=>
           (aD d.2 (i64.wrap (a+d.1))).bind λt=>
           (aD d.2 (i64.wrap (a+d.1))).bind λG=>
           (aD (d.2.set (i64.wrap (a+d.1)).toNat p) (i64.wrap (b+d.1))).bind λK=>
           r ((i64.wrap (d.1+1)),((d.2.set (i64.wrap (a+d.1)).toNat p).set (i64.wrap (b+d.1)).toNat t))
          else
           some d.2) N (0,L++U++M++V++R)=some (L++V++M++U++R):=by
 apply bQ.eq;simp only[zJ] at hs;refine lpM (I:=λx=>∃h k i o,x=((U.length:Int)-k.length,h++k++i++o++R)/\h++o++i++k++R=L++V++M++U++R/\o.length=k.length/\k.length<=U.length/\(h.length:Int)=a+U.length-k.length/\(h.length:Int)+k.length+i.length=b+U.length-k.length)
  (m:=λx=>(n-x.1).toNat) (λx f O P=>?_) ⟨L,U,M,V,by simp,rfl,E,by omega,by omega,by omega⟩ (by omega)
 obtain ⟨h,k,i,o,rfl,y,z,Q,T,W⟩:=O;cases k with
 |nil=>
  cases o with
  |nil=>rw[if_neg (by simp;omega),aY,<-y]
  |cons=>simp at z
 |cons u e=>
  cases o with
  |nil=>simp at z
  |cons v g=>
   simp only[FA] at z Q T W;have X:=Ig List.length y;simp only[zJ,FA] at X;have σ:i64.wrap (a+((U.length:Int)-((u::e).length:Nat)))=(h.length:Nat):=As (by simp;omega) (by omega) (by omega);have Z:i64.wrap (b+((U.length:Int)-((u::e).length:Nat)))=((h++u::e++i).length:Nat):=As (by simp;omega) (by simp;omega) (by simp;omega);have wc:i64.wrap (((U.length:Int)-((u::e).length:Nat))+1)=(U.length:Int)-(e.length:Nat):=As (by simp;omega) (by omega) (by omega);have e1:h++u::e++i++v::g++R=(h++u::e++i)++v::(g++R):=by simp
   have A:h++u::e++i++v::g++R=h++u::(e++i++v::g++R):=by simp
   have e3:h++v::(e++i++v::g++R)=(h++v::e++i)++v::(g++R):=by simp
   simp only;rw[if_pos (by simp;omega),σ,Z,wc,show aD (h++u::e++i++v::g++R) ((h++u::e++i).length:Nat)=some v from by rw[e1];exact dQ rfl,yA,
    show aD (h++u::e++i++v::g++R) (h.length:Nat)=some u from by rw[A];exact dQ rfl,Option.bind_some,Option.bind_some,A,iG rfl,e3,dQ (by simp),Option.bind_some,iG (by simp)]
   refine P _ ⟨h++[v],e,i++[u],g,by simp,by rw[<-y];simp,by omega,by omega,by simp;omega,by simp;omega⟩ (by simp;omega)
def Xy{R:Type}{b:(Int×Int->Option R)->Int×Int->Option R}{Q:R->Prop}{a hi N:Nat}(G:Nat->Prop)(h:a<=hi)(v:hi<N)
  (hs:∀f (s r:Nat),a<=s->s<r->r<=hi->(G ((s+r) / 2)->bQ (f (((((s+r) / 2:Nat):Int)+1),(r:Int))) Q)->(¬G ((s+r) / 2)->bQ (f ((s:Int),(((s+r) / 2:Nat):Int))) Q)->bQ (b f ((s:Int),(r:Int))) Q)
  (o:∀f (s:Nat),a<=s->s<=hi->(s=a\/G (s-1))->(s=hi\/¬G s)->bQ (b f ((s:Int),(s:Int))) Q):bQ (bB b N ((a:Int),(hi:Int))) Q:=by
 refine lpM (I:=λx=>∃s r:Nat,x=((s:Int),(r:Int))/\a<=s/\s<=r/\r<=hi/\(s=a\/G (s-1))/\(r=hi\/¬G r)) (m:=λx=>(x.2-x.1).toNat) (λx f p i=>?_) ⟨a,hi,rfl,by omega,h,by omega,.inl rfl,.inl rfl⟩ (by simp;omega);obtain ⟨s,r,rfl,d,t,e,k,n⟩:=p;rcases VX t with u | rfl
 ·refine hs f s r d u e (λg=>i _ ⟨(s+r) / 2+1,r,by simp,by omega,by omega,e,.inr (by simpa using g),n⟩ (by simp;omega)) (λg=>i _ ⟨s,(s+r) / 2,rfl,d,by omega,by omega,k,.inr g⟩ (by simp;omega))
 ·exact o f s d e k n
def oT{R:Type}{a b:Nat}{o:Option R}(h:a=b):BY a b o=o:=by subst h;simp[BY]
def rot_ok{N:Nat}{L U V R:List Int}{m i j:Int}(hm:m=L.length+U.length)(hi:i=U.length)(hj:j=V.length)(hU:0<U.length)(hV:0<V.length)(hN:U.length+V.length<N)(hs:(L++U++V++R).length≤1000) :
    bB (fun u (d:Int×Int×List Int)=>
               if (d.1 != d.2.1)=true then
                 if (decide (d.1 > d.2.1))=true then
                   (
                     bB (fun P (k:Int×List Int)=>
                       if (decide (k.1<d.2.1))=true then
                         (aD k.2 (i64.wrap (m+k.1))).bind fun v=>
                         (aD k.2 (i64.wrap ((i64.wrap (m-d.1))+k.1))).bind fun Q=>
                         (aD k.2 (i64.wrap ((i64.wrap (m-d.1))+k.1))).bind fun aa=>
                         (aD (k.2.set (i64.wrap ((i64.wrap (m-d.1))+k.1)).toNat v) (i64.wrap (m+k.1))).bind fun ab=>
                         P ((i64.wrap (k.1+1)),((k.2.set (i64.wrap ((i64.wrap (m-d.1))+k.1)).toNat v).set (i64.wrap (m+k.1)).toNat Q))
                       else
                         some k.2) N (0,d.2.2)).bind fun y=>
                   BY d.2.2.length y.length <|
                   u ((i64.wrap (d.1-d.2.1)),d.2.1,y)
                 else
                   (
                     bB (fun T (o:Int×List Int)=>
                       if (decide (o.1<d.1))=true then
                         (aD o.2 (i64.wrap ((i64.wrap ((i64.wrap (m+d.2.1))-d.1))+o.1))).bind fun z=>
                         (aD o.2 (i64.wrap ((i64.wrap (m-d.1))+o.1))).bind fun W=>
                         (aD o.2 (i64.wrap ((i64.wrap (m-d.1))+o.1))).bind fun ad=>
                         (aD (o.2.set (i64.wrap ((i64.wrap (m-d.1))+o.1)).toNat z) (i64.wrap ((i64.wrap ((i64.wrap (m+d.2.1))-d.1))+o.1))).bind fun af=>
                         T ((i64.wrap (o.1+1)),((o.2.set (i64.wrap ((i64.wrap (m-d.1))+o.1)).toNat z).set (i64.wrap ((i64.wrap ((i64.wrap (m+d.2.1))-d.1))+o.1)).toNat W))
                       else
                         some o.2) N (0,d.2.2)).bind fun A=>
                   BY d.2.2.length A.length <|
                   u (d.1,(i64.wrap (d.2.1-d.1)),A)
               else
                 (
                   bB (fun X (p:Int×List Int)=>
                     if (decide (p.1<d.1))=true then
                       (aD p.2 (i64.wrap (m+p.1))).bind fun E=>
                       (aD p.2 (i64.wrap ((i64.wrap (m-d.1))+p.1))).bind fun σ=>
                       (aD p.2 (i64.wrap ((i64.wrap (m-d.1))+p.1))).bind fun ak=>
                       (aD (p.2.set (i64.wrap ((i64.wrap (m-d.1))+p.1)).toNat E) (i64.wrap (m+p.1))).bind fun an=>
                       X ((i64.wrap (p.1+1)),((p.2.set (i64.wrap ((i64.wrap (m-d.1))+p.1)).toNat E).set (i64.wrap (m+p.1)).toNat σ))
                     else
                       some p.2) N (0,d.2.2)).bind fun Z=>
                 some Z) N (i,j,L++U++V++R)=some (L++V++U++R):=by
  apply bQ.eq
  simp only [zJ] at hs
  refine lpM (I:=fun x=>∃r h g t,x=((h.length:Int),(g.length:Int),r++h++g++t)/\r++g++h++t=L++V++U++R/\m=r.length+h.length/\0<h.length/\0<g.length/\h.length≤U.length/\g.length≤V.length) (m:=fun x=>(x.1+x.2.1).toNat) (fun x f hI hr=>?_) ⟨L,U,V,R,by rw [hi,hj],rfl,hm,hU,hV,by omega,by omega⟩ (by simp; omega)
  obtain ⟨r,h,g,t,rfl,O,h2,h3,h4,h5,h6⟩:=hI
  have hl:=Ig List.length O
  simp only [zJ] at hl
  have wa:i64.wrap (m-(h.length:Int))=(r.length:Int):=As (by omega) (by omega) (by omega)
  simp only [wa]
  by_cases e:h.length=g.length
  · rw [if_neg (by simp [e])]
    have:=XU (N:=N) (L:=r) (U:=h) (M:=[]) (V:=g) (R:=t) (a:=r.length) (b:=m) (n:=h.length) rfl (by simp; omega) rfl e.symm (by omega) (by simp; omega)
    simp only [CD] at this
    rw [this,aw,aY,O]
  · rw [if_pos (by simp; omega)]
    by_cases e2:g.length<h.length
    · rw [if_pos (by simp; omega)]
      have G:h=h.take g.length++h.drop g.length:=(JN _ _).symm
      have:=XU (N:=N) (L:=r) (U:=h.take g.length) (M:=h.drop g.length) (V:=g) (R:=t) (a:=r.length) (b:=m) (n:=g.length) rfl (by simp; omega) (by simp; omega) (by simp; omega) (by simp; omega) (by simp; omega)
      rw [zg r (h.take _),←G] at this
      rw [this,aw,oT (by simp; omega),show i64.wrap ((h.length:Int)-g.length)=((h.drop g.length).length:Int) from As (by simp; omega) (by omega) (by simp; omega)]
      refine hr _ ⟨r++g,h.drop g.length,h.take g.length,t,by simp; omega,?_,by simp; omega,by simp; omega,by simp; omega,by simp; omega,by simp; omega⟩ (by simp; omega)
      rw [←O]
      conv=>rhs; rw [G]
      simp
    · rw [if_neg (by simp; omega)]
      have K:g=g.take (g.length-h.length)++g.drop (g.length-h.length):=(JN _ _).symm
      have wb:i64.wrap (m+(g.length:Int))=m+g.length:=As rfl (by omega) (by omega)
      have wc:i64.wrap (m+(g.length:Int)-h.length)=m+g.length-h.length:=As rfl (by omega) (by omega)
      have:=XU (N:=N) (L:=r) (U:=h) (M:=g.take (g.length-h.length)) (V:=g.drop (g.length-h.length)) (R:=t) (a:=r.length) (b:=m+g.length-h.length) (n:=h.length) rfl (by simp; omega) rfl (by simp; omega) (by omega) (by simp; omega)
      rw [zg (r++h) (g.take _),←K] at this
      simp only [wb,wc]
      rw [this,aw,oT (by simp; omega),show i64.wrap ((g.length:Int)-h.length)=((g.take (g.length-h.length)).length:Int) from As (by simp; omega) (by omega) (by simp; omega)]
      refine hr _ ⟨r,g.drop (g.length-h.length),g.take (g.length-h.length),h++t,by simp; omega,?_,by simp; omega,by simp; omega,by simp; omega,by simp; omega,by simp; omega⟩ (by simp; omega)
      rw [←O]
      conv=>rhs; rw [K]
      simp
def BR(p:List K3)(u v:Int):Prop:=¬FI (Oz p v) (Oz p u)
def yl(p:List K3)(l:List Int):Prop:=l.Pairwise (BR p)
def BR.trans{p:List K3}{a b c:Int}(h:BR p a b)(i:BR p b c):BR p a c:=by unfold BR FI at *;omega
theorem BR.refl{p:List K3}{a:Int}:BR p a a:=by unfold BR FI;omega
theorem FI.le{p:List K3}{a b:Int}(h:FI (Oz p a) (Oz p b)):BR p a b:=by unfold BR FI at *;omega
def R_{p:List K3}{l:List Int}(h:yl p l){i j:Nat}(a:i<=j)(hj:j<l.length):BR p (l.getD i 0) (l.getD j 0):=by
 rcases VX a with b | rfl
 ·have:=yBg.1 h i j (by omega) hj b;simpa[Vo,hj,show i<l.length by omega] using this
 ·exact .refl
def DX{p:List K3}{l:List Int}(h:yl p l){t:Nat}(d:t<=l.length){y:Int}(a:t=0\/BR p (l.getD (t-1) 0) y):∀u∈l.take t,BR p u y:=λu b=>by
 obtain ⟨i,hi,rfl⟩:=iM b;simp only[BZ] at hi;rcases a with rfl | a
 ·omega
 ·have:=R_ h (i:=i) (j:=t-1) (by omega) (by omega);rw[Rk];have e:l.getD i 0=l[i]'(by omega):=by simp[Vo,show i<l.length by omega]
  rw[<-e];exact this.trans a
def Fe{p:List K3}{l:List Int}(h:yl p l){t:Nat}{y:Int}(a:l.length<=t\/BR p y (l.getD t 0)):∀u∈l.drop t,BR p y u:=λu b=>by
 obtain ⟨i,hi,rfl⟩:=iM b;simp only[yCb] at hi;rcases a with a | a
 ·omega
 ·have:=R_ h (i:=t) (j:=t+i) (by omega) (by omega);rw[yCn];have e:l.getD (t+i) 0=l[t+i]'(by omega):=by simp[Vo,show t+i<l.length by omega]
  rw[<-e];exact a.trans this
def yl.NA{p:List K3}{l:List Int}(h:yl p l)(t:Nat):yl p (l.take t):=List.Pairwise.sublist (List.take_sublist _ _) h
def yl.ND{p:List K3}{l:List Int}(h:yl p l)(t:Nat):yl p (l.drop t):=List.Pairwise.sublist (List.drop_sublist _ _) h
def RP{p:List K3}{l:List Int}(h:yl p l){t:Nat}(f:t<=l.length){y:Int}(g:t=0\/BR p (l.getD (t-1) 0) y)(i:l.length<=t\/BR p y (l.getD t 0)):yl p (l.take t++y::l.drop t):=by
 have a:=DX h f g;have b:=Fe h i;refine IZ.2 ⟨h.NA t,yBy.2 ⟨b,h.ND t⟩,λu e v d=>?_⟩;rcases gy.1 d with rfl | d
 ·exact a u e
 ·exact (a u e).trans (b v d)
def jX{L B R:List Int}{t k:Nat}(hk:k=L.length+t)(a:t<B.length):(L++B++R).getD k 0=B.getD t 0:=by subst hk;simp only[Vo];rw[zg,Np (by omega),FF (by omega),yBJ]
def Iw{l:List Int}{k:Nat}{i:Int}(h:i=(k:Int))(hk:k<l.length):aD l i=some (l.getD k 0):=by subst h;rw[bY hk];simp[Vo,hk]
def Dr{p:List K3}{l:List Int}(h:∀x∈l,Pj p x){k:Nat}(hk:k<l.length):Pj p (l.getD k 0):=by
 have:l.getD k 0=l[k]:=by simp[Vo,hk]
 rw[this];exact h _ (bA hk)
def Bi{X R:Type}{K:X->Option R}{J:(X->Option R)->Option R}{Q:R->Prop}(NR:X->Prop)(a:∀k,(∀x,NR x->bQ (k x) Q)->bQ (J k) Q)(b:∀x,NR x->bQ (K x) Q):bQ (jn K J) Q:=a K b
set_option maxHeartbeats 4000000 in
theorem Lr{p:List K3}:∀(N:Nat)(P A B S:List Int)(a m b:Int),A≠[]->B≠[]->(P++A++B++S).length<=1000->(∀x∈P++A++B++S,Pj p x)->A.length+B.length+1100<=N ->
  a=P.length->m=P.length+A.length->b=P.length+A.length+B.length ->
  bQ (zbd N (P++A++B++S) a m b p) λr=>∃C,r=P++C++S/\C.Perm (A++B)/\(yl p A->yl p B->yl p C):=by
 intro N;induction N with
 |zero=>intro P A B S a m b _ _ _ _ h;omega
 |succ N ih=>
  intro P A B S a m b hA hB hl M hN ha hm hb;have a1:0<A.length:=TO.2 hA;have a2:0<B.length:=TO.2 hB;have ak:=hl;simp only[zJ] at ak;show bQ (if (i64.wrap (m-a) == 1)=true then _ else _) _;rw[bq];have w1:i64.wrap (m-a)=A.length:=As (by omega) (by omega) (by omega);have w2:i64.wrap (b-m)=B.length:=As (by omega) (by omega) (by omega);rw[w1];refine ⟨λU=>?_,λU=>?_⟩
  ·
   obtain ⟨y,rfl⟩:∃y,A=[y]:=by
    match A,U with
    |[y],_=>exact ⟨y,rfl⟩
    |[],U=>simp at U
    |_::_::_,U=>simp at U;omega
   have hy:aD (P++[y]++B++S) a=some y:=by rw[show P++[y]++B++S=P++y::(B++S) by simp];exact dQ ha
   have an:Pj p y:=M y (by simp);simp only[FA,yBG] at hm hb ak hN;obtain ⟨z,rfl⟩:∃z:Nat,m=z:=⟨P.length+1,by omega⟩;obtain ⟨Q,rfl⟩:∃Q:Nat,b=Q:=⟨P.length+1+B.length,by omega⟩;refine Xy (λh=>FI (Oz p ((P++[y]++B++S).getD h 0)) (Oz p y)) (by omega) (by omega) (λf s r W X o hg hn=>?_) (λf s W X o E=>?_)
   ·have O:(s+r) / 2<(P++[y]++B++S).length:=by simp;omega
    simp only;rw[if_pos (by simp;omega),mid (by omega),Iw rfl O,aw,hy,aw,As (x:=(((s+r) / 2:Nat):Int)+1) rfl (by omega) (by omega)];refine (Dm (by omega) (Dr M O) an).bind λr T=>?_;rw[bq];exact ⟨λh=>hg (T.1 (by simpa using h)),λh=>hn λg=>h (by simpa using T.2 g)⟩
   ·simp only;rw[if_neg (by simp)];have ht:s-z<=B.length:=by omega
    have ax:B=B.take (s-z)++B.drop (s-z):=(JN _ _).symm;have e:P++[y]++B++S=P++y::B.take (s-z)++(B.drop (s-z)++S):=by simp only[zg,JC,zO];rw[<-zg (List.take _ _) (List.drop _ _) S,JN]
    rw[As (x:=(s:Int)-1) (y:=(P.length:Int)+(B.take (s-z)).length) (by simp;omega) (by omega) (by simp;omega)]
    conv in (P++[y]++B++S)=>rw[e]
    rw[up_ok ha rfl (by simp;omega) (by simp;omega),aY];refine ⟨B.take (s-z)++y::B.drop (s-z),by simp,?_,λ_ hb=>RP hb ht ?_ ?_⟩
    ·conv=>rhs;rw[ax]
     exact List.perm_middle
    ·rcases o with o | o
     ·left;omega
     ·by_cases σ:s-z=0
      ·exact .inl σ
      ·right;rw[jX (L:=P++[y]) (B:=B) (R:=S) (t:=s-z-1) (by simp;omega) (by omega)] at o;exact o.le
    ·rcases E with E | E
     ·left;omega
     ·by_cases σ:B.length<=s-z
      ·exact .inl σ
      ·right;rw[jX (L:=P++[y]) (B:=B) (R:=S) (t:=s-z) (by simp;omega) (by omega)] at E;exact E
  ·rw[bq,w2];refine ⟨λh2=>?_,λh2=>?_⟩
   ·
    obtain ⟨y,rfl⟩:∃y,B=[y]:=by
     match B,h2 with
     |[y],_=>exact ⟨y,rfl⟩
     |[],U=>simp at U
     |_::_::_,U=>simp at U;omega
    have hy:aD (P++A++[y]++S) m=some y:=by rw[show P++A++[y]++S=(P++A)++y::S by simp];exact dQ (by simp;omega)
    have an:Pj p y:=M y (by simp);simp only[FA,yBG] at hm hb ak hN;obtain ⟨K,rfl⟩:∃K:Nat,a=K:=⟨P.length,by omega⟩;obtain ⟨z,rfl⟩:∃z:Nat,m=z:=⟨P.length+A.length,by omega⟩;refine Xy (λh=>¬FI (Oz p y) (Oz p ((P++A++[y]++S).getD h 0))) (by omega) (by omega) (λf s r W X o hg hn=>?_) (λf s W X o E=>?_)
    ·have O:(s+r) / 2<(P++A++[y]++S).length:=by simp;omega
     simp only;rw[if_pos (by simp;omega),mid (by omega),hy,aw,Iw rfl O,aw,As (x:=(((s+r) / 2:Nat):Int)+1) rfl (by omega) (by omega)];refine (Dm (by omega) an (Dr M O)).bind λr T=>?_;rw[bq];refine ⟨λh=>hg λg=>?_,λh=>hn λg=>?_⟩
     ·have:=T.2 g;simp at h;omega
     ·simp at h;exact g (T.1 h)
    ·simp only;rw[if_neg (by simp)];have ht:s-K<=A.length:=by omega
     have av:A=A.take (s-K)++A.drop (s-K):=(JN _ _).symm;have e:P++A++[y]++S=(P++A.take (s-K))++A.drop (s-K)++y::S:=by
      conv=>lhs;rw[av]
      simp
     conv in (P++A++[y]++S)=>rw[e]
     rw[dn_ok (by simp;omega) (by simp;omega) (by simp;omega) (by simp;omega),aY];refine ⟨A.take (s-K)++y::A.drop (s-K),by simp,?_,λhb _=>RP hb ht ?_ ?_⟩
     ·conv=>rhs;rw[av]
      simp only[zg];exact yCl _ (yBS (l₁:=[y]))
     ·rcases o with o | o
      ·left;omega
      ·by_cases σ:s-K=0
       ·exact .inl σ
       ·right;rw[show P++A++[y]++S=P++A++([y]++S) by simp,jX (L:=P) (B:=A) (t:=s-K-1) (by omega) (by omega)] at o;exact o
     ·rcases E with E | E
      ·left;omega
      ·by_cases σ:A.length<=s-K
       ·exact .inl σ
       ·right;rw[show P++A++[y]++S=P++A++([y]++S) by simp,jX (L:=P) (B:=A) (t:=s-K) (by omega) (by omega)] at E;exact (Classical.not_not.1 E).le
   ·
    have av:2<=A.length:=by
     rcases rU A.length 2 with h | h
     ·exact absurd (show ((A.length:Int) == 1)=true by simp;omega) U
     ·exact h
    have ax:2<=B.length:=by
     rcases rU B.length 2 with h | h
     ·exact absurd (show ((B.length:Int) == 1)=true by simp;omega) h2
     ·exact h
    obtain ⟨K,rfl⟩:∃K:Nat,a=K:=⟨P.length,by omega⟩;obtain ⟨z,rfl⟩:∃z:Nat,m=z:=⟨P.length+A.length,by omega⟩;obtain ⟨Q,rfl⟩:∃Q:Nat,b=Q:=⟨P.length+A.length+B.length,by omega⟩;have ab:=mid (i:=K) (j:=Q) (by omega);obtain ⟨G,a0⟩:∃G,G=(K+Q) / 2:=⟨_,rfl⟩;rw[<-a0] at ab;simp only[ab];have wn:i64.wrap ((G:Int)+(z:Int))=((G+z:Nat):Int):=As (by simp) (by omega) (by omega);simp only[wn];have a5:(P++A++B++S).length=P.length+A.length+B.length+S.length:=by simp;omega
    refine Bi (λx=>∃lo hi:Nat,x=((lo:Int),(hi:Int))/\lo<=hi/\hi<=G/\hi<=z/\K<=lo/\G+z<=Q+lo/\(lo=K\/G+z=Q+lo)/\(hi=z\/hi=G)) (λk hk=>?_) ?_
    ·rw[bq];refine ⟨λh=>hk _ ⟨G+z-Q,G,?_,?_⟩,λh=>hk _ ⟨K,z,rfl,?_⟩⟩
     ·rw[As (x:=((G+z:Nat):Int)-(Q:Int)) (y:=((G+z-Q:Nat):Int)) (by simp at h;omega) (by omega) (by omega)]
     ·simp at h;omega
     ·simp at h;omega
    ·rintro _ ⟨lo,hi,rfl,q1,q2,q3,q4,q5,q6,q7⟩;refine Xy (λc=>¬FI (Oz p ((P++A++B++S).getD (G+z-1-c) 0)) (Oz p ((P++A++B++S).getD c 0))) q1 (by omega) (λf s r W X o hg hn=>?_) (λf s W X o E=>?_)
     ·have O:(s+r) / 2<(P++A++B++S).length:=by omega
      have ad:G+z-1-(s+r) / 2<(P++A++B++S).length:=by omega
      have wp:i64.wrap (((G+z:Nat):Int)-1)=((G+z-1:Nat):Int):=As (by omega) (by omega) (by omega);simp only;rw[if_pos (by simp;omega),mid (by omega),wp,As (x:=((G+z-1:Nat):Int)-(((s+r) / 2:Nat):Int)) (y:=((G+z-1-(s+r) / 2:Nat):Int)) (by omega) (by omega) (by omega),Iw rfl ad,aw,Iw rfl O,aw,As (x:=(((s+r) / 2:Nat):Int)+1) rfl (by omega) (by omega)];refine (Dm (by omega) (Dr M ad) (Dr M O)).bind λr T=>?_;rw[bq];refine ⟨λh=>hg λg=>?_,λh=>hn λg=>?_⟩
      ·have:=T.2 g;simp at h;omega
      ·simp at h;exact g (T.1 h)
     ·simp only;rw[if_neg (by simp)];have we:i64.wrap (((G+z:Nat):Int)-(s:Int))=((G+z-s:Nat):Int):=As (by omega) (by omega) (by omega);simp only[we];obtain ⟨d,a6⟩:∃d,d=s-K:=⟨_,rfl⟩;obtain ⟨n,a7⟩:∃n,n=G-s:=⟨_,rfl⟩;have la:d<=A.length:=by omega
      have lb:n<=B.length:=by omega
      have eA:A=A.take d++A.drop d:=(JN _ _).symm;have eB:B=B.take n++B.drop n:=(JN _ _).symm;have a8:(A.take d).length=d:=by simp;omega
      have a9:(A.drop d).length=A.length-d:=by simp
      have bb:(B.take n).length=n:=by simp;omega
      have bc:(B.drop n).length=B.length-n:=by simp
      have f1:d=0\/B.length<=n\/BR p (A.getD (d-1) 0) (B.getD n 0):=by
       by_cases σ:d=0
       ·exact .inl σ
       by_cases Z:B.length<=n
       ·exact .inr (.inl Z)
       rcases o with o | o
       ·omega
       rw[jX (L:=P++A) (B:=B) (R:=S) (t:=n) (by simp;omega) (by omega),show P++A++B++S=P++A++(B++S) by simp,jX (L:=P) (B:=A) (t:=d-1) (by omega) (by omega)] at o;exact .inr (.inr o)
      have f2:n=0\/A.length<=d\/BR p (B.getD (n-1) 0) (A.getD d 0):=by
       by_cases σ:n=0
       ·exact .inl σ
       by_cases Z:A.length<=d
       ·exact .inr (.inl Z)
       rcases E with E | E
       ·omega
       rw[jX (L:=P++A) (B:=B) (R:=S) (t:=n-1) (by simp;omega) (by omega),show P++A++B++S=P++A++(B++S) by simp,jX (L:=P) (B:=A) (t:=d) (by omega) (by omega)] at E;exact .inr (.inr (Classical.not_not.1 E).le)
      refine Bi (λx=>x=P++A.take d++B.take n++A.drop d++B.drop n++S) (λk hk=>?_) ?_
      ·rw[bq];refine ⟨λh=>?_,λh=>hk _ ?_⟩
       ·simp only[bG,bz] at h;have e:P++A++B++S=(P++A.take d)++A.drop d++B.take n++(B.drop n++S):=by
         simp only[zg];rw[<-zg (B.take n) (B.drop n) S,JN,<-zg (A.take d) (A.drop d),JN]
        conv in (P++A++B++S)=>rw[e]
        rw[rot_ok (by simp;omega) (by rw[As rfl (by omega) (by omega)];omega) (by rw[As rfl (by omega) (by omega)];omega) (by omega) (by omega) (by omega) (by simp;omega),yA,oT (by rw[e];simp;omega)];exact hk _ (by simp)
       ·simp only[bG,bz,yBU] at h;rcases h with h | h
        ·have:A.drop d=[]:=by rw[<-Zn];omega
         have e2:A.take d=A:=by rw[this] at eA;simpa using eA.symm
         rw[this,e2]
         conv=>lhs;rw[eB]
         simp
        ·have:B.take n=[]:=by rw[<-Zn];omega
         have e2:B.drop n=B:=by rw[this] at eB;simpa using eB.symm
         rw[this,e2]
         conv=>lhs;rw[eA]
         simp
      ·rintro _ rfl;refine Bi (λx=>∃C1,x=P++C1++A.drop d++B.drop n++S/\C1.Perm (A.take d++B.take n)/\(yl p (A.take d)->yl p (B.take n)->yl p C1)) (λk hk=>?_) ?_
       ·rw[bq];refine ⟨λh=>?_,λh=>hk _ ⟨A.take d++B.take n,by simp,.refl _,λZ h4=>?_⟩⟩
        ·simp only[bG,bz] at h;have e:P++A.take d++B.take n++A.drop d++B.drop n++S=P++A.take d++B.take n++(A.drop d++B.drop n++S):=by simp
         have r:=ih P (A.take d) (B.take n) (A.drop d++B.drop n++S) K s G (by rw[<-TO];omega) (by rw[<-TO];omega) (by rw[<-e];simp;omega) (λx hx=>M x (by
          rw[<-e] at hx;simp only[kL] at hx ⊢;rcases hx with ((((h | h) | h) | h) | h) | h
          ·exact .inl (.inl (.inl h))
          ·exact .inl (.inl (.inr (Mx h)))
          ·exact .inl (.inr (Mx h))
          ·exact .inl (.inl (.inr (yBp h)))
          ·exact .inl (.inr (yBp h))
          ·exact .inr h)) (by omega) ha (by omega) (by omega)
         rw[<-e] at r;refine r.bind λr T=>?_;obtain ⟨C,rfl,Z,h4⟩:=T;have h5:=Z.length_eq;simp only[zJ] at h5;rw[oT (by simp;omega)];exact hk _ ⟨C,by simp,Z,h4⟩
        ·simp only[bG,bz,yBU] at h;rcases h with h | h
         ·have:A.take d=[]:=by rw[<-Zn];omega
          rw[this];exact h4
         ·have:B.take n=[]:=by rw[<-Zn];omega
          rw[this,CD];exact Z
       ·rintro _ ⟨C1,rfl,g1,g2⟩;have lC:=g1.length_eq;simp only[zJ] at lC;have aa:∀C2:List Int,C2.Perm (A.drop d++B.drop n)->yl p A->yl p B->∀u∈C1,∀v∈C2,BR p u v:=λC2 g3 sA sB u hu v M=>by
         have hu:=kL.1 (g1.mem_iff.1 hu);have M:=kL.1 (g3.mem_iff.1 M);rcases hu with hu | hu <;> rcases M with M | M
         ·have:=IZ.1 (eA▸sA:yl p (A.take d++A.drop d));exact this.2.2 u hu v M
         ·rcases f1 with f1 | f1 | f1
          ·subst f1;simp at hu
          ·rw[yB8 f1] at M;simp at M
          ·exact Fe sB (.inr (DX sA la (.inr f1) u hu)) v M
         ·rcases f2 with f2 | f2 | f2
          ·rw[f2] at hu;simp at hu
          ·rw[yB8 f2] at M;simp at M
          ·exact Fe sA (.inr (DX sB lb (.inr f2) u hu)) v M
         ·have:=IZ.1 (eB▸sB:yl p (B.take n++B.drop n));exact this.2.2 u hu v M
        have af:∀C2:List Int,C2.Perm (A.drop d++B.drop n)->(C1++C2).Perm (A++B):=λC2 g3=>by
         refine (List.Perm.append g1 g3).trans ?_
         conv=>rhs;rw[eA,eB]
         simp only[zg];refine yCl _ ?_;rw[<-zg,<-zg (A.drop d)];exact List.Perm.append_right _ yBS
        rw[bq];refine ⟨λh=>?_,λh=>aY.2 ⟨C1++(A.drop d++B.drop n),by simp,af _ (.refl _),λsA sB=>?_⟩⟩
        ·simp only[bG,bz] at h;have e:P++C1++A.drop d++B.drop n++S=(P++C1)++A.drop d++B.drop n++S:=rfl;have r:=ih (P++C1) (A.drop d) (B.drop n) S G ((G+z-s:Nat):Int) Q (by rw[<-TO];omega) (by rw[<-TO];omega) (by simp;omega) (λx hx=>M x (by
          simp only[kL] at hx ⊢;rcases hx with (((h | h) | h) | h) | h
          ·exact .inl (.inl (.inl h))
          ·rcases kL.1 (g1.mem_iff.1 h) with h | h
           ·exact .inl (.inl (.inr (Mx h)))
           ·exact .inl (.inr (Mx h))
          ·exact .inl (.inl (.inr (yBp h)))
          ·exact .inl (.inr (yBp h))
          ·exact .inr h)) (by omega) (by simp;omega) (by simp;omega) (by simp;omega)
         refine r.bind λr T=>?_;obtain ⟨C2,rfl,Z,h4⟩:=T;refine aY.2 ⟨C1++C2,by simp,af _ Z,λsA sB=>?_⟩;exact IZ.2 ⟨g2 (sA.NA _) (sB.NA _),h4 (sA.ND _) (sB.ND _),aa _ Z sA sB⟩
        ·refine IZ.2 ⟨g2 (sA.NA _) (sB.NA _),?_,aa _ (.refl _) sA sB⟩;simp only[bG,bz,yBU] at h;rcases h with h | h
         ·have:A.drop d=[]:=by rw[<-Zn];omega
          rw[this];exact sB.ND _
         ·have:B.drop n=[]:=by rw[<-Zn];omega
          rw[this,CD];exact sA.ND _
end Go.Plain
end
section
namespace Go.Plain
open Go.Abs
def qE{X R:Type}{b:(X->Option R)->X->Option R}{Q:R->Prop}{n:Nat}{x:X}(hn:0<n)(h:∀f,f=bB b (n-1)->bQ (b f x) Q):bQ (bB b n x) Q:=by obtain ⟨k,rfl⟩:∃k,n=k+1:=⟨n-1,by omega⟩;exact h _ rfl
def PK{p:List K3}{N:Nat}{P A S:List Int}{a E:Int}(ha:a=P.length)(hE:E=P.length+A.length)(hN:1100<=N)(hl:(P++A++S).length<=1000)(O:∀x∈P++A++S,Pj p x) :
  bQ (bB (λf8 (Q : Int × List Int)=>
         if (decide (Q.1<E))=true then
          bB (λad (d:Int×List Int)=>
           jn (λ(af:Bool)=>
            if af=true then
             (aD d.2 (i64.wrap (d.1-1))).bind λR=>
             (aD d.2 d.1).bind λak=>
             (aD d.2 d.1).bind λa6=>
             (aD (d.2.set d.1.toNat R) (i64.wrap (d.1-1))).bind λa7=>
             ad ((i64.wrap (d.1-1)),((d.2.set d.1.toNat R).set (i64.wrap (d.1-1)).toNat ak))
            else
             f8 ((i64.wrap (Q.1+1)),d.2)) λW=>
           if (decide (d.1 > a))=true then
           (aD d.2 d.1).bind λan=>
           (aD d.2 (i64.wrap (d.1-1))).bind λav=>
           (
            (aD p an).bind λt=>
            (aD p av).bind λG=>
            (zaA N ([t.1,t.2.1,t.2.2]:List Int) ([G.1,G.2.1,G.2.2]:List Int)).bind λax=>
            some ax).bind λa0=>
           W (decide (a0<0))
           else
           W false) N (Q.1,Q.2)
         else
          some Q.2) N ((i64.wrap (a+1)),P++A++S)) λr=>∃C,r=P++C++S/\C.Perm A/\yl p C:=by
 have a1:=hl;simp only[zJ] at a1;rw[As (x:=a+1) (y:=a+1) rfl (by omega) (by omega)];refine lpM (I:=λx=>∃C T,x.2=P++C++T++S/\(C++T).Perm A/\yl p C/\x.1=a+(if A=[] then 1 else (C.length:Int))/\(A≠[]->0<C.length)) (m:=λx=>(E+1-x.1).toNat) (λx f hI hr=>?_) ?_ (by simp;omega)
 ·obtain ⟨i,row⟩:=x;obtain ⟨C,T,rfl,hp,hs,hi,h0⟩:=hI;simp only at hi hr ⊢;have n:=hp.length_eq;simp only[zJ] at n;by_cases hA:A=[]
  ·subst hA;simp only[if_true,yBG] at hi n hE;rw[if_neg (by simp;omega),aY];have hC:C=[]:=by rw[<-Zn];omega
   have hT:T=[]:=by rw[<-Zn];omega
   subst hC hT;exact ⟨[],by simp,.refl _,hs⟩
  ·rw[if_neg hA] at hi;have a8:=h0 hA;cases T with
   |nil=>simp only[yBG] at n;rw[if_neg (by simp;omega),aY];exact ⟨C,by simp,by simpa using hp,hs⟩
   |cons y T=>
    simp only[FA] at n;rw[if_pos (by simp;omega)];refine lpM (I:=λz=>∃U V,z=(a+(U.length:Int),P++U++y::(V++T++S))/\U++V=C/\∀v∈V,BR p y v) (m:=λz=>(z.1-a).toNat) (λz g hz a2=>?_) ⟨C,[],by rw[hi];simp,by simp,by simp⟩ (by simp;omega);obtain ⟨U,V,rfl,e,X⟩:=hz;have K:=Ig List.length e;simp only[zJ] at K;have M:∀x∈P++U++y::(V++T++S),Pj p x:=λx σ=>O x (by
     simp only[kL,gy] at σ ⊢;have o:x∈U\/x∈V\/x=y\/x∈T->x∈A:=λh=>hp.mem_iff.1 (by
      rw[<-e];simp only[kL,gy];rcases h with h | h | h | h
      ·exact .inl (.inl h)
      ·exact .inl (.inr h)
      ·exact .inr (.inl h)
      ·exact .inr (.inr h))
     rcases σ with (h | h) | h | (h | h) | h
     ·exact .inl (.inl h)
     ·exact .inl (.inr (o (.inl h)))
     ·exact .inl (.inr (o (.inr (.inr (.inl h)))))
     ·exact .inl (.inr (o (.inr (.inl h))))
     ·exact .inl (.inr (o (.inr (.inr (.inr h)))))
     ·exact .inr h)
    have done:(∀u∈U,BR p u y)->bQ (f (i64.wrap (i+1),P++U++y::(V++T++S))) (λr=>∃C,r=P++C++S/\C.Perm A/\yl p C):=λhu=>by
     rw[As (x:=i+1) rfl (by omega) (by omega)];refine hr _ ⟨U++y::V,T,by simp,?_,?_,?_,λ_=>by simp;omega⟩ (by simp;omega)
     ·refine List.Perm.trans ?_ hp;rw[<-e];have:(U++y::V).Perm (U++V++[y]):=by
       rw[zg];exact yCl _ (yBS (l₁:=[y]))
      have:=this.append_right T;simpa using this
     ·have Z:=IZ.1 (e▸hs:yl p (U++V));refine IZ.2 ⟨Z.1,yBy.2 ⟨X,Z.2.1⟩,λu h v O=>?_⟩;rcases gy.1 O with rfl | O
      ·exact hu u h
      ·exact Z.2.2 u h v O
     ·rw[if_neg hA];simp;omega
    refine Bi (λx=>(x=true->∃b v,U=b++[v]/\BR p y v)/\(x=false->∀u∈U,BR p u y)) (λk hk=>?_) (λx σ=>?_)
    ·rw[bq];refine ⟨λh=>?_,λh=>hk _ ⟨by simp,λ_ u hu=>?_⟩⟩
     ·simp at h;rcases List.eq_nil_or_concat U with rfl | ⟨b,v,rfl⟩
      ·simp at h
      simp only[yCk] at M hk h ⊢;simp only[yCk,zJ,FA,yBG] at K;have w:i64.wrap (a+((b++[v]).length:Nat)-1)=((P++b).length:Nat):=As (by simp;omega) (by simp;omega) (by simp;omega);have e1:P++(b++[v])++y::(V++T++S)=(P++b)++v::(y::(V++T++S)):=by simp
      rw[w,dQ (by simp;omega),aw,show aD (P++(b++[v])++y::(V++T++S)) ((P++b).length:Nat)=some v from by rw[e1];exact dQ rfl,yA];refine (Dm (by omega) (M y (by simp)) (M v (by simp))).bind λr aa=>hk _ ⟨λh=>⟨b,v,rfl,(aa.1 (by simpa using h)).le⟩,λh u hu=>?_⟩;have ab:BR p v y:=λg=>by have:=aa.2 g;simp at h;omega
      simp only[yCk] at e;have Z:=IZ.1 (e▸hs:yl p ((b++[v])++V));have h2:=IZ.1 Z.1;rcases kL.1 hu with hu | hu
      ·exact (h2.2.2 u hu v (by simp)).trans ab
      ·simp at hu;subst hu;exact ab
     ·simp at h;have:U=[]:=by rw[<-Zn];omega
      subst this;simp at hu
    ·rw[bq];refine ⟨λh=>?_,λh=>done (σ.2 (by simpa using h))⟩;obtain ⟨b,v,rfl,a5⟩:=σ.1 h;simp only[zJ,FA,yBG] at K;have w:i64.wrap (a+((b++[v]).length:Nat)-1)=((P++b).length:Nat):=As (by simp;omega) (by simp;omega) (by simp;omega);have e1:P++(b++[v])++y::(V++T++S)=(P++b)++v::(y::(V++T++S)):=by simp
     have e3:P++(b++[v])++v::(V++T++S)=(P++b)++v::(v::(V++T++S)):=by simp
     simp only;rw[w,show aD (P++(b++[v])++y::(V++T++S)) ((P++b).length:Nat)=some v from by rw[e1];exact dQ rfl,yA,dQ (by simp;omega),yA,yA,iG (by simp;omega),e3,dQ (by simp),yA,iG (by simp)];refine a2 _ ⟨b,v::V,by simp;omega,by rw[<-e];simp,λu hu=>?_⟩ (by simp;omega);rcases gy.1 hu with rfl | hu
     ·exact a5
     ·exact X u hu
 ·refine ⟨A.take 1,A.drop 1,by simp only[zg];rw[<-zg (A.take 1),JN],by rw[JN],?_,?_,?_⟩
  ·cases A with
   |nil=>exact .nil
   |cons=>simp[yl]
  ·cases A <;> simp
  ·intro (h:A≠[]);have:=TO.2 h;simp;omega
def Ox(n:Nat):List Int:=(List.range n).map λ(i:Nat)=>(i:Int)
theorem nP(n:Nat):(Ox n).length=n:=by simp[Ox]
def upn_get{n i:Nat}(h:i<n):(Ox n)[i]'(by rw[nP];exact h)=(i:Int):=by simp[Ox]
def JS{p:List K3}{x:Int}(h:x∈Ox p.length):Pj p x:=by simp only[Ox,iX,yCd] at h;obtain ⟨i,hi,rfl⟩:=h;exact ⟨by omega,by omega⟩
def LZ{α:Type}{z:α}{n:Nat}(h:n<=1000):Dl z (n:Int) (n:Int)=some (List.replicate n z):=by unfold Dl;simp;omega
def Fh{N:Nat}{p:List K3}(hp:p.length<40)(hN:2000<=N):bQ (ze2 N p) λr=>r.Perm (Ox p.length)/\yl p r:=by
 unfold ze2;rw[LZ (by omega),aw];refine iL p.length (λi x=>x=((i:Int),(Ox p.length).take i++List.replicate (p.length-i) 0)) (λi x f hi n b=>?_) (λx f n=>?_) (by simp) (by omega)
 ·subst n;have hl:((Ox p.length).take i).length=i:=by simp[nP];omega
  have e:List.replicate (p.length-i) (0:Int)=0::List.replicate (p.length-(i+1)) 0:=by rw[show p.length-i=(p.length-(i+1))+1 by omega,xAf]
  simp only;rw[if_pos (by simp;omega),e,dQ (by rw[hl]),yA,iG (by rw[hl]),bV (by omega)];refine b _ (by rw[yBZ,dW (by rw[nP];exact hi),upn_get hi];simp)
 ·subst n;rw[yBz (by rw[nP];exact cP _),yCw,xAg,CD];simp only;rw[if_neg (by simp),nP];generalize n:Ox p.length=x;have z:x.length=p.length:=by rw[<-n,nP]
  have d:∀a∈x,Pj p a:=λa g=>JS (by rw[n];exact g)
  suffices key:∀o:Option (List Int),(bQ o λr=>r.Perm x/\yl p r)->bQ ((o.bind λK=>some K).bind λu=>BY p.length u.length<|some u) λr=>r.Perm x/\yl p r by
   refine key _ ?_;have M:i64.wrap (20+20)=40:=rfl;have O:i64.wrap (2 * 20)=40:=rfl;have Q:i64.wrap (20 * 2)=40:=rfl;have R:i64.wrap (0+20)=20:=rfl;by_cases aa:p.length<20
   ·refine qE (by omega) λf y=>?_;simp only;rw[if_neg (by simp;omega)];have X:=PK (p:=p) (N:=N) (P:=[]) (A:=x) (S:=[]) (a:=0) (E:=p.length) rfl (by simp;omega) (by omega) (by simp;omega) (by simpa using d);rw[zO,CD] at X;refine X.bind λr b=>?_;obtain ⟨C,rfl,h,t⟩:=b;rw[oT (by simpa using h.length_eq.symm)];refine qE (by omega) λf y=>?_;rw[if_neg (by simp;omega),aY];exact ⟨by simpa using h,by simpa using t⟩
   ·refine qE (by omega) λf y=>?_;simp only;have v:x=x.take 20++x.drop 20:=(JN _ _).symm;have σ:(x.take 20).length=20:=by simp;omega
    have Z:(x.drop 20).length=p.length-20:=by simp;omega
    rw[if_pos (by simp;omega)];have r1:=PK (p:=p) (N:=N) (P:=[]) (A:=x.take 20) (S:=x.drop 20) (a:=0) (E:=20) rfl (by rw[σ];simp) (by omega) (by simp;omega) (by simpa using d);rw[zO,<-v] at r1;refine r1.bind λr b=>?_;obtain ⟨C,rfl,h,t⟩:=b;have T:C.length=20:=by rw[h.length_eq,σ]
    rw[zO,oT (by simp;omega),M,y];refine qE (by omega) λf y=>?_;simp only;rw[if_neg (by simp;omega)];have U:∀a∈C++x.drop 20,Pj p a:=λa g=>d a (by
     rcases kL.1 g with g | g
     ·exact Mx (h.mem_iff.1 g)
     ·exact yBp g)
    have r2:=PK (p:=p) (N:=N) (P:=C) (A:=x.drop 20) (S:=[]) (a:=20) (E:=p.length) (by rw[T];rfl) (by rw[T,Z];omega) (by omega) (by simp;omega) (by simpa using U);rw[CD] at r2;refine r2.bind λr b=>?_;obtain ⟨D,rfl,h3,h4⟩:=b;have lD:D.length=p.length-20:=by rw[h3.length_eq,Z]
    have m:(C++D).Perm x:=by rw[v];exact List.Perm.append h h3
    rw[CD,oT (by simp;omega)];refine qE (by omega) λf2 W=>?_;simp only;by_cases ab:p.length=20
    ·rw[if_neg (by simp;omega),aY];have:D=[]:=by rw[<-Zn];omega
     subst this;exact ⟨m,by simpa using t⟩
    ·rw[if_pos (by simp;omega),O];refine qE (by omega) λf3 ad=>?_;simp only;rw[if_neg (by simp;omega),R];refine Bi (λr=>r.Perm x/\yl p r) (λk hk=>?_) (λr b=>?_)
     ·rw[if_pos (by simp;omega)];have r3:=Lr (p:=p) N [] C D [] 0 20 p.length (by rw[<-TO];omega) (by rw[<-TO];omega) (by simp;omega) (λa g=>d a (m.mem_iff.1 (by simpa using g))) (by omega) rfl (by rw[T];rfl) (by simp;omega);rw[zO,CD] at r3;refine r3.bind λr b=>?_;obtain ⟨G,rfl,h5,h6⟩:=b;have lG:=h5.length_eq;rw[oT (by simp at lG ⊢;omega)];exact hk _ ⟨by simpa using h5.trans m,by simpa using h6 t h4⟩
     ·rw[Q,W];refine qE (by omega) λf4 af=>?_;simp only;rw[if_neg (by simp;omega),aY];exact b
  intro o ⟨r,ho,h,t⟩;rw[ho,aw,aw,oT (by rw[h.length_eq,z])];exact aY.2 ⟨h,t⟩
def vX{s:aX}(hs:iE s)(k:ba s):PF 5000 s=some true:=by
 obtain ⟨r,e,h⟩:=lY s hs
 simp_all
def GX(x a b:Int):∃v,Wb 5000 x a b=some v:=by
 unfold Wb;split
 ·simp_all
 ·split <;> exact ⟨_,rfl⟩
def MW(x:Int):∃v,zdu 5000 x=some v:=by
 obtain ⟨r,e⟩:=GX x 0 1099511627776;unfold zdu EY
 simp_all
def TF{s:aX}(hs:iE s)(k:ba s)(j:aJ)(now:Int)(use:List Int):∃v,oh 5000 s j now use=some v:=by
 have d:∃v,pC 5000 now j.cA=some v:=by unfold pC;split <;> exact ⟨_,rfl⟩
 obtain ⟨ag,n⟩:=d;obtain ⟨h,o⟩:=GX j.aL 0 64;unfold oh m_;rw[vX hs k,aw,if_neg (by simp)];simp only[eE,n,o,aw];have i:∀q:Int,∃v:Int×Int×Int×Int,(if ((decide (j.bL≥0))&&(decide (j.bL<(use.length:Int))))=true then
    (aD use j.bL).bind λp=>(zdu 5000 p).bind λr=>some ((i64.wrap (s.ae.fM * ag)),(i64.wrap (s.ae.cu * h)),(i64.wrap (s.ae.dL * q)),(i64.wrap (s.ae.br * r)))
   else some ((i64.wrap (s.ae.fM * ag)),(i64.wrap (s.ae.cu * h)),(i64.wrap (s.ae.dL * q)),(i64.wrap (s.ae.br * 0))))=some v:=λq=>by
  by_cases m:((decide (j.bL≥0))&&(decide (j.bL<(use.length:Int))))=true
  ·have a:=m;simp only[bG,bz] at a;obtain ⟨g,e⟩:=AV (l:=use) a.1 a.2;obtain ⟨f,t⟩:=MW (use[j.bL.toNat]'g)
   simp_all
  ·rw[if_neg m];simp_all
 by_cases hq:((decide (j.Queue≥0))&&(decide (j.Queue<(s.aq.length:Int))))=true
 ·have b:=hq;simp only[bG,bz] at b;obtain ⟨g,e⟩:=AV (l:=s.aq) b.1 b.2;rw[if_pos hq,e,aw];obtain ⟨v,ev⟩:=i (s.aq[j.Queue.toNat]'g).dL
  simp_all
 ·rw[if_neg hq];obtain ⟨v,ev⟩:=i 0
  simp_all
def TG(s:aX)(n:kg)(j:aJ):K3:=(jU 5000 s j n).getD (0,0,0)
def keyP_ok{s:aX}(hs:iE s)(k:ba s)(n:kg)(j:aJ):jU 5000 s j n=some (TG s n j):=by
 have:∃v,jU 5000 s j n=some v:=by
  obtain ⟨v,e⟩:=TF hs k j n.aO n.eJ;unfold jU
  simp_all
 grind [TG]
def UF{s:aX}(hs:iE s)(k:ba s)(n:kg){L:List aJ}(hL:∀j∈L,dh j)(hl:L.length<40) :
  bQ (zcd 5000 L s n) λr=>r.Perm L:=by
 unfold zcd;rw[vX hs k,aw,if_neg (by simp),LZ (by omega),aw];refine iL L.length (λi x=>x=((i:Int),(L.map (TG s n)).take i++List.replicate (L.length-i) (0,0,0))) (λi x f hi a b=>?_) (λx f a=>?_) (by simp) (by omega)
 ·subst a;have hl:((L.map (TG s n)).take i).length=i:=by grind
  have e:List.replicate (L.length-i) ((0,0,0):K3)=(0,0,0)::List.replicate (L.length-(i+1)) (0,0,0):=by rw[show L.length-i=(L.length-(i+1))+1 by omega,xAf]
  simp only;rw[if_pos (cS hi),bY hi,aw,keyP_ok hs k,aw,e,dQ (by rw[hl]),yA,iG (by rw[hl]),bV (by omega)]
  grind [List.take_add_one]
 ·subst a;rw[yBz (by simp),yCw,xAg,CD];simp only;have z:∀x:aJ,Dl x 0 (L.length:Int)=some []:=λx=>by
   unfold Dl
   grind
  rw[if_neg (by simp),z,aw];refine (Fh (N:=5000) (p:=L.map (TG s n)) (by simp_all) (by omega)).bind λr b=>?_;obtain ⟨hp,hw⟩:=b;rw[vR] at hp;have g:r.length=L.length:=by rw[hp.length_eq,nP]
  have h:∀x∈r,0<=x/\x<L.length:=λx a=>by
   have:=JS (p:=L.map (TG s n)) (x:=x) (by grind)
   grind [Pj]
  let J:Int->aJ:=λx=>L.getD x.toNat { Id:=0,bL:=0,Queue:=0,aL:=0,ay:=({ bI:=0,Mem:=0,bM:=0,bR:=0 }:aF),aR:=0,aE:=[],State:=0,Ok:=false,cH:=false,aK:=0,cA:=0,Start:=0,End:=0,Array:=0 }
  have m:∀x∈r,aD L x=some (J x):=λx a=>by grind [AV]
  refine iL r.length (λi x=>x=((i:Int),(r.map J).take i)) (λi x f hi a b=>?_) (λx f a=>?_) (by simp) (by omega)
  ·subst a;have o:dh (J r[i]):=by
    grind [AV]
   simp only;rw[if_pos (cS hi),bY hi,aw,m _ (bA hi),aw];have t:zax 5000 (J r[i]).aE=some (J r[i]).aE:=Eh (by grind [dh.kI]);rw[t,aw,ze (by grind),aw,bV (by omega)];refine b _ (by rw[yBZ,dW (by grind)];simp)
  ·subst a;simp only;rw[if_neg (by simp),aY,yBz (by simp)];have d:(Ox L.length).map J=L:=by
    apply yCc
    ·simp[Ox]
    grind [Ox]
   grind
section
variable{l:List aJ}(hl:l.length<=300)(hs:bU l)
def Vh(l:List aJ)(d:FB):Prop:=∃j∈l,j.Id=d.bj/\(j.State=5\/j.State=6)/\(d.Ok=true->j.State=5/\j.Ok=true)
include hl in
theorem YE(id:Int):bQ (vS 5000 id l) λr=>(r.2=false/\∀j∈l,j.Id≠id)\/∃(i:Nat)(h:i<l.length),l[i].Id=id/\r=(l[i],true):=by
 unfold vS;refine xX l (λ_ j=>j.Id≠id) (λi f h _ a=>?_) (λf h=>?_) (by omega)
 ·simp only[cS h,if_true,bY h,aw,bV (show i<1000000 by omega),bq,aY,lA]
  grind
 ·simp only[eR,b_,cw,aY];exact .inl ⟨trivial,De (A:=λ(j:aJ)=>j.Id≠id) h⟩
include hl hs in
theorem Oj{d:FB}{i:Nat}(hi:i<l.length)(e:l[i].Id=d.bj):Vh l d↔(l[i].State=5\/l[i].State=6)/\(d.Ok=true->l[i].State=5/\l[i].Ok=true):=by
 constructor
 ·rintro ⟨j,hj,h1,h2,h3⟩;obtain ⟨t,a,rfl⟩:=iM hj;have:=hs.inj a hi (h1.trans e.symm)
  simp_all
 ·rintro ⟨h2,h3⟩;exact ⟨l[i],bA hi,e,h2,h3⟩
include hl hs in
theorem ZB{j:aJ}(m:j.aE.length<=10):fe (mP 5000 j l) (∀d∈j.aE,Vh l d):=by
 unfold mP;refine LH j.aE (Vh l) _ (λh=>h) (λi f hi Q n b=>?_) (λf h=>?_) (by omega)
 ·rw[if_pos (cS hi),bY hi,aw];refine (YE hl _).bind λr a=>?_;rw[eE];rcases a with ⟨a,hn⟩ | ⟨t,g,e,rfl⟩
  ·rw[if_pos (by simp[a])];show bQ (if true=true then _ else _) _;rw[if_pos rfl,aY];exact b λ⟨j,hj,e,_⟩=>hn j hj e
  ·have k:=Oj hl hs g e;unfold Fa VY;simp only[aw];rw[if_neg (by simp),bV (show i<1000000 by omega)]
   grind [aY]
 ·simp only[eR,b_,cw];exact pY h
def iP(l:List aJ)(j:aJ):Bool:=(j.State == 1)&&(mP 5000 j l).getD false
theorem abl_ok{T:Type}(st:T->Int)(met:T->Option Bool):∀l:List T,(∀a∈l,∃b,met a=some b)->Ez st met l=some (l.filter λa=>(st a == 1)&&(met a).getD false)
 |[],_=>rfl
 |a :: l, h => by
  have ih:=abl_ok st met l λx d=>h x (o_ _ d);obtain ⟨b,e⟩:=h a (qY ..);unfold Ez
  grind
include hl hs in
theorem Iy(d:∀j∈l,j.aE.length<=10):ft 5000 l=some (l.filter (iP l)):=by unfold ft Xt;rw[show Nat.ble l.length 1000000=true from Nat.ble_eq▸(by omega)];exact abl_ok _ _ l λa h=>by obtain ⟨b,e,_⟩:=ZB hl hs (d a h);simp_all
end
theorem JE{R:Type}{K:List aJ->Option R}:∀(r b:List aJ),b.length+r.length<=1000 ->
  lpR (λ(d:aJ) (e:List aJ) f=>
  (cB e ([d]:List aJ)).bind λg=>
  f g) K r b=K (b++r)
 |[],b,_=>by simp[lpR]
 |a :: r, b, h => by simp only[FA] at h;unfold lpR;rw[ze (by grind),aw,JE r _ (by grind)];simp
def Oo{R:Type}{b:(Int×Int->Option R)->Int×Int->Option R}{Q:R->Prop}{l:List aJ}(hl:l.length<=300)(P:aJ->Bool)
  (hs:∀f (c i:Nat) (h:i<l.length),c<=i->bQ (f (((if P l[i] then c+1 else c:Nat):Int),((i+1:Nat):Int))) Q->bQ (b f ((c:Int),(i:Int))) Q)
  (e:∀f,bQ (b f ((l.countP P:Int),(l.length:Int))) Q):bQ (bB b 5000 (0,0)) Q:=by
 refine iL l.length (λi x=>x=(((l.take i).countP P:Int),(i:Int))) (λi x f hi a d=>?_) (λx f a=>?_) (by simp) (by omega)
 ·subst a;refine hs f _ i hi (jk List.countP_le_length (by grind)) (d _ ?_)
  grind [List.take_add_one]
 simp_all
def hasB(x:Int):Bool:=(x == 3) || (x == 4)
def GZ{l:List aJ}(hl:l.length<=300)(q:Int):lE 5000 l q=some (l.countP λj=>(j.Queue == q)&&hasB j.State:Int):=by
 unfold lE;apply bQ.eq;rw[ki];refine Oo hl (λj=>(j.Queue == q)&&hasB j.State) (λf c i hi b a=>?_) (λf=>?_)
 ·simp only[eE];rw[if_pos (cS hi),bY hi,aw,bV (show i<1000000 by omega),bV (show c<1000000 by omega)];unfold Pm;by_cases h:(l[i].Queue == q)=true
  ·rw[if_pos h,aw,aw];simp only[h,yC9] at a;show bQ (if hasB l[i].State=true then _ else _) _
   grind
  simp_all
 ·simp only;rw[if_neg (by simp),aY,aY]
def of_eq{l:List aJ}(hl:l.length<=300)(q u:Int):zF 5000 l q u=some (l.countP λj=>((j.Queue == q)&&(j.bL == u))&&hasB j.State:Int):=by
 unfold zF;apply bQ.eq;rw[ki];refine Oo hl (λj=>((j.Queue == q)&&(j.bL == u))&&hasB j.State) (λf c i hi b a=>?_) (λf=>?_)
 ·simp only[eE];rw[if_pos (cS hi),bY hi,aw,bV (show i<1000000 by omega),bV (show c<1000000 by omega)];unfold Pm;by_cases h:((l[i].Queue == q)&&(l[i].bL == u))=true
  ·rw[if_pos h,aw,aw];simp only[h,yC9] at a;show bQ (if hasB l[i].State=true then _ else _) _
   grind
  grind
 ·simp only;rw[if_neg (by simp),aY,aY]
def Gb{s:aX}(hs:iE s)(k:ba s){l:List aJ}(hl:l.length<=300)(j:aJ):∃b,eV 5000 s l j=some b:=by
 unfold eV nN;by_cases hq:0<=j.Queue/\j.Queue<s.aq.length
 ·obtain ⟨a,e⟩:=AV (l:=s.aq) hq.1 hq.2;rw[if_pos (by simp_all),vX hs k,aw,aw,if_neg (by simp),e,aw,GZ hl,aw,of_eq hl,aw];split <;> exact ⟨_,rfl⟩
 ·rw[if_neg (by simp_all),aw,if_pos (by simp)]
  simp_all
end Go.Plain
end
