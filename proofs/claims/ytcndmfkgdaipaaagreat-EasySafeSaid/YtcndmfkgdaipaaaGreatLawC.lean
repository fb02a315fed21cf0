/- Lemmas. -/
import Derived.Test.YtcndmfkgdaipaaaGreatLawB
import Derived.Test.YtcndmfkgdaipaaaGreatLawA
set_option linter.all false
open Go.IntKind (i64 u64)
section
namespace Go.Plain
open Go.Abs
theorem vp{zs:List Int}{j:Nat}(h:j<zs.length):zs.toArray[j]! = zs[j]:=by simp_all
theorem Ml(zs:List Int)(x:Int):x∈Lib.compact zs↔x∈zs:=by
 unfold Lib.compact Lib.compactUpTo;constructor
 ·grind
 ·intro h;obtain ⟨j,hj,rfl⟩:=jV h;have:∀j (hj:j<zs.length),zs[j]∈((List.range zs.length).filter (Lib.keeps zs.toArray)).map (zs.toArray[·]!):=by
   intro j;induction j with
   |zero=>intro hj;exact iS.2 ⟨0,RI.2 ⟨yCa.2 hj,by simp[Lib.keeps]⟩,vp hj⟩
   |succ j ih=>
    intro hj;by_cases e:zs[j+1]=zs[j]
    ·simp_all
    ·refine iS.2 ⟨j+1,RI.2 ⟨yCa.2 hj,?_⟩,vp hj⟩;unfold Lib.keeps
     grind
  simp_all
theorem FP{zs:List Int}(h:zs.Pairwise λa b=>a<=b):(Lib.compact zs).Pairwise λa b=>a<=b:=by
 unfold Lib.compact Lib.compactUpTo;rw[List.pairwise_map]
 grind [vp,List.pairwise_iff_getElem]
theorem YW{R:Type}{a b:Nat}(h:a=b)(k:Option R):Dt a b k=k:=by grind [Go.Abs.Dt,Nat.beq_refl]
structure Xf (nodes:List (List bY)) (part:List Int) (T:List Int):Prop where
 bM:T.Pairwise λa b=>a<=b
 mem:∀x,x∈T↔∃n∈part,∃s∈(nodes[n.toNat]?).getD [],s.At=x
theorem Vj{l:List Int}(hl:l.length<=1000000){Q:List Int->Prop}(h:∀T,T.Pairwise (λa b=>a<=b)->(∀x,x∈T↔x∈l)->T.length<=l.length->Q T) :
  bO ((zcq 5000 l).bind λe=>Dt l.length e.length<|(zbU 5000 e).bind λf=>some f.2) Q:=by
 unfold zcq zbU NW;rw[Abs.NH];have d:∀m:List Int,m.map (λk=>k)=m:=λm=>List.map_id' m;rw[if_pos hl,aw,d,d,YW (List.length_mergeSort l).symm];unfold MP;rw[if_pos (by simp_all),aw,aY,d,d];have g:∀a b c:Int,decide (a<=b)=true->decide (b<=c)=true->decide (a<=c)=true:=λa b c n o=>by grind
 have i:∀a b:Int,(decide (a<=b) || decide (b<=a))=true:=λa b=>by grind
 have hs:(l.mergeSort λx y=>decide (x<=y)).Pairwise λa b=>a<=b:=(List.pairwise_mergeSort g i l).imp λ{a b} h=>by simp_all
 refine h _ (FP hs) (λx=>?_) (by grind [Go.Abs.zk,List.length_mergeSort]);rw[Ml,(List.mergeSort_perm l _).mem_iff]
theorem Hc{nodes:List (List bY)}{q:gR}{L:Nat}(hL:L<=200)(hq:sf q)(hp:PR nodes q L){w:Cw}(hw:iB q w) :
  bO (zbC 5000 nodes w.Part q.S.aH) λT=>Xf nodes (cB q w) T/\T.length<=3200:=by
 have nn:=hq.spec.nodes.hi;obtain ⟨u,v⟩:=jQ hw;have r:=hq.spec.parts.ok _ v;have pl:(cB q w).length<=16:=by
  rcases wD r.2 with h | h
  ·omega
  simp_all
 have t:=hp.len;unfold zbC;rw[if_neg (by have:=hw.part;simp_all),u,aw];refine jm (cB q w).length (λi x=>x.1=(i:Int)/\x.2.length<=200 * i/\∀y,y∈x.2↔∃n∈(cB q w).take i,∃s∈(nodes[n.toNat]?).getD [],s.At=y) (λi x f hi a z=>?_) (λx f a=>?_) ⟨rfl,by simp,λy=>by simp⟩ (by omega)
 ·obtain ⟨y,T⟩:=x;obtain ⟨rfl,g,b⟩:=a;dsimp only at g b ⊢;have hn:=r.2.mem _ (bH hi);obtain ⟨k,A⟩:∃k:Nat,(cB q w)[i]=(k:Int):=⟨((cB q w)[i]).toNat,by omega⟩;have hk:k<nodes.length:=by omega
  obtain ⟨G,lk⟩:=hp.dg.each k hk;rw[if_pos (cK hi),bX hi,aw,A,bX hk,aw];refine jm nodes[k].length (λj x=>x.1=(j:Int)/\x.2.length=T.length+j/\∀y,y∈x.2↔y∈T\/∃s∈nodes[k].take j,s.At=y) (λj x E hj a m=>?_) (λx E a=>?_) ⟨rfl,rfl,λy=>by simp⟩ (by omega)
  ·obtain ⟨y,U⟩:=x;obtain ⟨rfl,o,d⟩:=a;dsimp only at o d ⊢;rw[if_pos (cK hj),bX hj,aw,Cj (by grind),aw,bT (show j<1000000 by omega)];refine m _ ⟨rfl,by grind,λy=>?_⟩;dsimp only;rw[mC,Bp,d,or_assoc];refine or_congr_right ?_;constructor
   ·rintro (⟨s,e,p⟩ | h)
    ·grind
    ·exact ⟨_,(d_ hj).2 (.inr rfl),h.symm⟩
   ·rintro ⟨s,e,p⟩;rcases (d_ hj).1 e with e | e
    ·grind
    simp_all
  ·obtain ⟨y,U⟩:=x;obtain ⟨rfl,o,d⟩:=a;dsimp only at o d ⊢;rw[if_neg (by simp),bT (show i<1000000 by omega)];rw[xO] at d;refine z _ ⟨rfl,by grind,λy=>?_⟩;dsimp only;rw[d,b,Ib hi]
   simp_all
 ·obtain ⟨y,T⟩:=x;obtain ⟨rfl,g,b⟩:=a;dsimp only at g b ⊢;rw[if_neg (by simp)];rw[xO] at b;exact Vj (by omega) λU e p K=>⟨⟨e,λx=>(p x).trans (b x)⟩,by omega⟩
def cJ(q:gR)(w:Cw)(t:Int):List cO×Bool:=(VO 5000 q w t).getD ([],false)
structure wu (q:gR) (w:Cw) (T:List Int) (r:jN×Bool):Prop where
 yes:r.2=true->r.1.At∈T/\(cJ q w r.1.At).2=true/\(∀s∈T,(cJ q w s).2=true->r.1.At<=s)/\r.1.aS=0/\r.1.ae=(cJ q w r.1.At).1
 no:r.2=false->(∀s∈T,(cJ q w s).2=false)/\r.1={ aS:=0,At:=0,ae:=[] }
section
variable{nodes:List (List bY)}{q:gR}{L:Nat}(hL:L<=200)(hq:sf q)(hp:PR nodes q L){w:Cw}(hw:iB q w)
include hL hq hp hw
theorem BK{t:Int}(b:q.aQ<=t):zaI 5000 nodes w.Part w.aM w.ay w.aR t q.aQ q.S.aH=some (cJ q w t)/\VO 5000 q w t=some (cJ q w t):=by
 by_cases d:t<=1099511627776
 ·obtain ⟨F,_,_,e,a⟩:=DU (by omega) hq hp hw b d;have:cJ q w t=DA F (cB q w) w.aM w.ay:=by grind [cJ]
  simp_all
 ·have a:VO 5000 q w t=some ([],false):=by
   unfold VO
   simp_all
  have:cJ q w t=([],false):=by grind [cJ]
  rw[this];refine ⟨?_,a⟩;unfold zaI
  simp_all
theorem VK:bO (zaF 5000 q w) λr=>∃T,D_ q T/\wu q w T r:=by
 unfold zaF;refine (LQ hq).bind λT a=>?_;have k:=a.len;refine vo T (λ_ t=>(cJ q w t).2=false) (λi f hi b d=>?_) (λf b=>?_) (by omega)
 ·have e:=(a.mem T[i]).1 (bH hi);rw[if_pos (cK hi),bX hi,aw,(BK hL hq hp hw e.1).2,aw,bx,bT (show i<1000000 by omega)];refine ⟨λh=>?_,λh=>d (by simp_all)⟩;rw[aw,aY];refine ⟨T,a,⟨λ_=>⟨bH hi,h,λs hs m=>?_,rfl,rfl⟩,λh=>by simp at h⟩⟩;obtain ⟨j,hj,rfl⟩:=jV hs;dsimp only;rcases Wx j i with g | g | g
  ·simp_all
  ·simp_all
  ·have:=yBg.1 a.bM i j hi hj g;omega
 ·rw[if_neg (by simp),aY];exact ⟨T,a,⟨λh=>by simp at h,λ_=>⟨DZ (A:=λt=>(cJ q w t).2=false) b,rfl⟩⟩⟩
theorem HL{T:List Int}(b:Xf nodes (cB q w) T):q.aQ∈T/\∀x∈T,q.aQ<=x:=by
 obtain ⟨i,g⟩:=jQ hw;have d:=hq.spec.parts.ok _ g;have e:=hp.len;constructor
 ·have f:0<(cB q w).length:=by omega
  have hn:=d.2.mem _ (bH f);have hk:((cB q w)[0]).toNat<nodes.length:=by omega
  obtain ⟨a,lk⟩:=hp.dg.each _ hk;refine (b.mem _).2 ⟨_,bH f,nodes[((cB q w)[0]).toNat][0]'a.ne,?_,hp.dg.first _ hk a.ne⟩
  simp_all
 ·intro x h;obtain ⟨n,hn,s,hs,rfl⟩:=(b.mem x).1 h;have nb:=d.2.mem n hn;have hk:n.toNat<nodes.length:=by omega
  obtain ⟨a,lk⟩:=hp.dg.each _ hk;rw[eI hk,SH] at hs;obtain ⟨j,hj,rfl⟩:=jV hs;have:=hp.dg.first _ hk a.ne;have:=a.le (OX j) hj;omega
theorem Pv:bO (zaK 5000 nodes w.Part w.aM w.ay w.aR q.aQ q.S.aH) fun r=>∃T,Xf nodes (cB q w) T/\wu q w T r:=by
 unfold zaK
 refine (Hc hL hq hp hw).bind fun T d=>?_
 obtain ⟨d,v⟩:=d
 have a:=(HL hL hq hp hw d).2
 have fin:∀i (hi:i<T.length),(∀j (hj:j<T.length),j<i->(cJ q w T[j]).2=false)->(cJ q w T[i]).2=true->wu q w T ({ aS:=0,At:=T[i],ae:=(cJ q w T[i]).1 },true):=fun i hi e h=>
  ⟨fun _=>⟨bH hi,h,fun s hs m=>by
   obtain ⟨j,hj,rfl⟩:=jV hs
   dsimp only
   rcases Wx j i with g | g | g
   ·simp_all
   ·simp_all
   ·have:=yBg.1 d.bM i j hi hj g; omega,rfl,rfl⟩,fun h=>by simp at h⟩
 have none:(∀j (hj:j<T.length),(cJ q w T[j]).2=false)->wu q w T ({ aS:=0,At:=0,ae:=[] },false):=fun e=>
  ⟨fun h=>by simp at h,fun _=>⟨DZ (A:=fun t=>(cJ q w t).2=false) e,rfl⟩⟩
 rw [bx]
 refine ⟨fun h=>?_,fun h=>?_⟩
 ·rw [aY]
  grind
 ·have n:0<T.length:=by grind
  have o:aC T 0=some T[0]:=bX n
  rw [o,aw,(BK hL hq hp hw (a _ (bH n))).1,aw,bx]
  refine ⟨fun p=>?_,fun p=>?_⟩
  ·grind [aY]
  ·refine jm (T.length-1) (fun i x=>x=(T,((i+1:Nat):Int))/\∀j (hj:j<T.length),j<i+1->(cJ q w T[j]).2=false) (fun i x f hi k y=>?_) (fun x f k=>?_) ⟨rfl,fun j hj u=>?_⟩ (by omega)
   ·obtain ⟨rfl,e⟩:=k
    have b:i+1<T.length:=by omega
    dsimp only
    rw [if_neg (by grind),bX b,aw,(BK hL hq hp hw (a _ (bH b))).1,aw,bx]
    refine ⟨fun m=>?_,fun m=>?_⟩
    ·grind [aY]
    ·rw [bT (show i+1<1000000 by omega)]
     grind
   ·obtain ⟨rfl,e⟩:=k
    dsimp only
    rw [if_pos (by grind),aY]
    grind
   simp_all
theorem If{t a:Int}(m:q.aQ<=a)(h:a<=t)(o:∀n∈cB q w,∀u,a<=u->u<=t->bI q n u=bI q n t)(i:(cJ q w t).2=true):(cJ q w a).2=true:=by
 have Q:=hp.right;have p:=hq.now;have R:=hw.wall;have r:t<=1099511627776:=by
  rcases yC4 1099511627776 t with g | g
  ·exfalso;have T:VO 5000 q w t=some ([],false):=by
    unfold VO
    simp_all
   grind [cJ]
  omega
 obtain ⟨F,x,b,_,e⟩:=DU (by omega) hq hp hw (show q.aQ<=t by omega) r;obtain ⟨G,y,d,_,U⟩:=DU (by omega) hq hp hw m (by omega);have w1:cJ q w t=DA F (cB q w) w.aM w.ay:=by grind [cJ]
 have w2:cJ q w a=DA G (cB q w) w.aM w.ay:=by grind [cJ]
 rw[w1] at i;rw[w2];obtain ⟨z,A⟩:=Co.1 i;refine Co.2 ⟨z,Int.le_trans A (QO b d hw.need λn hn c=>?_)⟩;have nb:=b.node n hn;obtain ⟨E,_,K⟩:=zx (F:=F) nb.1 nb.2;obtain ⟨M,_,N⟩:=zx (F:=G) nb.1 (by grind [Ja.len]);have f:=x.low _ E;have k:=y.low _ M;rw[yCs nb.1] at f k;rw[K,N];obtain ⟨u,v,O,W,P,ev⟩:=k.dg c;rw[<-ev,P];by_cases g:u<t
 ·rw[o n hn u O (by omega)];exact f.le t _ (Py _) (by omega) rfl c
 ·exact f.le u _ (by omega) (by omega) rfl c
theorem aaa{t:Int}(a:(cJ q w t).2=true):t<=1099511627776:=by
 rcases yC4 1099511627776 t with g | g
 ·exfalso;have b:VO 5000 q w t=some ([],false):=by
   unfold VO
   simp_all
  grind [cJ]
 omega
theorem ZT:∃r,zaK 5000 nodes w.Part w.aM w.ay w.aR q.aQ q.S.aH=some r/\zaF 5000 q w=some r/\(∃T,D_ q T/\wu q w T r):=by
 obtain ⟨r,e,T,N,Y⟩:=VK hL hq hp hw;obtain ⟨Z,e',v,i,d⟩:=Pv hL hq hp hw;obtain ⟨ep,hm⟩:=jQ hw;have kp:=hq.spec.parts.ok _ hm;have aa:=hp.len;have O:=HL hL hq hp hw i;have f:∀t∈T,(cJ q w t).2=true->∃h∈v,h<=t/\(cJ q w h).2=true:=λt P Q=>by
  have A:=(N.mem t).1 P;obtain ⟨x,k,E,m,R⟩:=BG v (a:=q.aQ) A.1;have U:x∈v:=by grind
  refine ⟨x,U,m,If hL hq hp hw E m (λn hn u u1 u2=>?_) Q⟩;have nb:=kp.2.mem n hn;have hk:n.toNat<nodes.length:=by omega
  have v1:=hp.val n.toNat hk u (by omega);have v2:=hp.val n.toNat hk t A.1;rw[yCs nb.1] at v1 v2;obtain ⟨s,s1,s2,W,s4⟩:=v2;have sx:s.At<=x:=R _ ((i.mem _).2 ⟨n,hn,s,by simp_all,rfl⟩) s2;exact v1.Cq (hp.dg.each _ hk).1 ⟨s,s1,by omega,λs' o G=>W s' o (by omega),s4⟩
 have g:∀t∈v,(cJ q w t).2=true->∃h∈T,h<=t/\(cJ q w h).2=true:=λt P Q=>by
  have A:=O.2 t P;obtain ⟨x,k,E,m,R⟩:=BG T (a:=q.aQ) A;have U:x∈T:=by
   rcases k with k | k
   ·rw[k];exact (N.mem _).2 ⟨Py _,.inl rfl⟩
   omega
  refine ⟨x,U,m,If hL hq hp hw E m (λn hn u u1 u2=>?_) Q⟩;have c:∀y,x<=y->y<=t->bI q n y=bI q n x:=λy y1 y2=>CR E y1 λz z1 z2 z3=>by have:=R z ((N.mem z).2 ⟨z1,z2⟩) (by omega);omega
  simp_all
 have:Z=r:=by
  obtain ⟨p,b⟩:=r;obtain ⟨X,b'⟩:=Z;cases b with
  |true=>
   obtain ⟨o,G,h3,h4,h5⟩:=Y.yes rfl;dsimp only at o G h3 h4 h5;obtain ⟨h,t1,t2,t3⟩:=f _ o G;cases b' with
   |true=>
    obtain ⟨K,M,g3,g4,g5⟩:=d.yes rfl;dsimp only at K M g3 g4 g5;obtain ⟨s',s1,s2,W⟩:=g _ K M;have:=g3 _ t1 t3;have:=h3 _ s1 W;have ea:X.At=p.At:=by omega
    have:X=p:=by
     obtain ⟨a1,a2,a3⟩:=p;obtain ⟨b1,b2,b3⟩:=X
     simp_all
    rw[this]
   |false=>
    have:=(d.no rfl).1 _ t1
    simp_all
  |false=>
   obtain ⟨o,G⟩:=Y.no rfl;cases b' with
   |true=>
    obtain ⟨K,M,_⟩:=d.yes rfl
    grind
   |false=>
    obtain ⟨K,M⟩:=d.no rfl
    simp_all
 grind
end
end Go.Plain
end
section
namespace Go.Plain
open Go.Abs
def eE(u:BZ):jC:={ ay:=u.ay,ae:=u.ae,pa:=u.To }
structure Xx (q:gR):Prop where
 ref:sf q
 lo:∀u∈q.L,u.bQ=q.aQ/\q.aQ<u.To
 caps:∀(i k:Nat)(h:k<q.S.aj.length)(t:Int)(c:Nat),cmp c (ba (q.L.take i) k t)<=cmp c q.S.aj[k]
 live:∀b∈q.aA,q.aQ<b.To
 uB:∀b∈q.aA,∀t,b.bQ<=t->q.aQ<=t->ba q.L b.Node t=bV
theorem QT{q:gR}(h:Xx q):il 5000 (q.L.map eE) q.aQ q.S.aj.length=some true:=by
 have o:=h.ref.yh;unfold il;refine bO.eq (vo (q.L.map eE) (λ_ _=>True) (λi f hi _ p=>?_) (λf r=>?_) (by grind))
 ·have a:i<q.L.length:=by simp_all
  have u:=h.ref.used _ (bH a);have t:=h.lo _ (bH a);have e:(q.L.map eE)[i]=eE q.L[i]:=Wu ..;obtain ⟨v,b,d⟩:=oY (eE q.L[i]).ae q.S.aj.length u.yh;have:=d.2 u.shares;subst this;obtain ⟨x,g,k⟩:=Uo (eE q.L[i]).ay;have:=k.2 u.need;subst this;rw[if_pos (cK hi),bX hi,e,aw,dV,b,aw,if_neg (by simp),g,aw];have m:decide ((eE q.L[i]).pa<=q.aQ)=false:=by show decide (q.L[i].To<=q.aQ)=false;simp_all
  have n:decide ((eE q.L[i]).pa > 281474976710656)=false:=by show decide (q.L[i].To > _)=false;have:=u.hi;simp_all
  rw[m,n];dsimp only;rw[if_neg (by simp),bT (show i<1000000 by omega)]
  simp_all
 ·rw[if_neg (by simp),aY]
theorem NV{a:Int}{r:aE}(h:0<=a/\a<=1099511627776)(b:aN r):dG [({ At:=a,cw:=r }:bY)]:=
 ⟨by simp,λi hi=>by grind,λs hs=>by grind⟩
theorem Wj{a:Int}{r:aE}(h:0<=a/\a<=1099511627776)(b:aN r):wk 5000 a r=some ([{ At:=a,cw:=r }],0):=by unfold wk;rw[jF (by simp) (NV h b),aw,if_neg (by simp)]
theorem JA{q:gR}(k:bo q.S){i:Nat}(hi:i<q.S.aj.length):aN q.S.aj[i]:=k.nodes.ok _ (bH hi)
theorem MG{q:gR}(h:Xx q):bO (ze3 5000 (q.L.map eE) q.S q.aQ q.aA) λr=>∃nodes,r=.inr (nodes,q.aQ,q.S.aH)/\PR nodes q (1+2 * (q.L.length+q.aA.length)):=by
 have hq:=h.ref;have hs:=kH hq.spec;have nn:=hq.spec.nodes.hi;have ad:=hq.now;have hf:=hq.yh;have hb:=hq.cA.len;unfold ze3;obtain ⟨rb,eb,av⟩:=Ez q.aA q.S.aj.length (by omega);have:=av.2 hq.cA;subst this;rw[dV,BA hs hq.spec,aw,if_neg (by simp;omega),eb,aw,if_neg (by simp),QT h,aw];dsimp only;rw[if_neg (by simp)];have ak:=hs.parts;refine jm q.S.aH.length (λi x=>x=((i:Int),q.S.aH.take i)) (λi x f hi G Y=>?_) (λx f G=>?_) rfl (by omega)
 ·subst G;have pl:=hs.part _ (bH hi);dsimp only;rw[if_pos (cK hi),bX hi,aw];unfold za1;rw[yI (by omega),aw,Cj (by simp;omega),aw,bT (show i<1000000 by omega)];exact Y _ (by rw[Ib hi])
 subst G;dsimp only;rw[if_neg (by simp),xO];refine jm q.S.aj.length (λi x=>x.1=(i:Int)/\x.2=(q.S.aj.take i).map λr=>[({ At:=q.aQ,cw:=r }:bY)]) (λi x f hi G Y=>?_) (λx f G=>?_) ⟨rfl,rfl⟩ (by omega)
 ·obtain ⟨y,M⟩:=x;obtain ⟨rfl,rfl⟩:=G;dsimp only;rw[if_pos (cK hi),bX hi,aw,Wj ad (JA hq.spec hi),aw,if_neg (by simp),Cj (by simp;omega),aw,bT (show i<1000000 by omega)];exact Y _ ⟨rfl,by rw[Ib hi,yCc];rfl⟩
 obtain ⟨y,M0⟩:=x;obtain ⟨rfl,rfl⟩:=G;dsimp only;rw[if_neg (by simp),xO];have af:∀(r:aE)(t:Int),q.aQ<=t->za [({ At:=q.aQ,cw:=r }:bY)] t r:=λr t K=>⟨_,Bp.2 rfl,K,λs' A _=>by rw[Bp.1 A];exact Py _,rfl⟩;refine jm (q.L.map eE).length (λi x=>x.1=(i:Int)/\x.2.length=q.S.aj.length/\DR x.2 q.aQ (1+2 * i)/\∀(k:Nat)(A:k<x.2.length)(U:k<q.S.aj.length)(t:Int),q.aQ<=t->za x.2[k] t (fA q.S.aj[k] (ba (q.L.take i) k t))) (λi x f hi G Y=>?_) (λx f G=>?_) ⟨rfl,by simp,⟨λk hk=>?_,λk hk A=>by simp⟩,λk A U t K=>?_⟩ (by simp;omega)
 ·obtain ⟨y,M⟩:=x;obtain ⟨rfl,N,o,E⟩:=G;dsimp only at N o E ⊢;have Z:i<q.L.length:=by simpa using hi
  have u:=hq.used _ (bH Z);have lo:=h.lo _ (bH Z);have e:(q.L.map eE)[i]=eE q.L[i]:=Wu ..;have st:∀k t,ba (q.L.take (i+1)) k t=Ca (ba (q.L.take i) k t) (kg q.L[i] k t):=λk t=>by rw[Ib Z,nK]
  rw[if_pos (cK hi),bX hi,e,aw];refine (CH (by omega) o (by omega) (a:=q.aQ) (b:=(eE q.L[i]).pa) (l:=(eE q.L[i]).ae) (need:=(eE q.L[i]).ay) (by rw[N];exact u.shares) u.yh u.need (Py _) (show q.aQ<q.L[i].To by omega) u.hi (λk hk t v h1 U hv c=>?_)).bind λr aa=>?_
  ·have O:k<q.S.aj.length:=by omega
   have ev:=hv.Cq (o.each k hk).1 (E k hk O t h1);have cp:=h.caps (i+1) k O t c;rw[st,wH] at cp;have ea:kg q.L[i] k t=mulR (dL q.L[i].ae k) q.L[i].ay:=by unfold kg;rw[if_pos ⟨by omega,U⟩]
   rw[ea] at cp;rw[ev,Dz];show cmp c (mulR (dL q.L[i].ae k) q.L[i].ay)<=_;omega
  ·obtain ⟨r1,r2,r3⟩:=aa;rw[if_neg (by simp[r1]),bT (show i<1000000 by omega)];refine Y _ ⟨rfl,by dsimp only;omega,⟨λk hk=>?_,λk hk A=>?_⟩,λk A U t K=>?_⟩
   ·have T:=r3 k (by dsimp only at hk;omega) hk;exact ⟨T.ok,by have:=T.len;have:=(o.each k (by dsimp only at hk;omega)).2;dsimp only at *;omega⟩
   ·have T:=r3 k (by dsimp only at hk;omega) hk;have n0:=(o.each k (by dsimp only at hk;omega)).1.ne;dsimp only;rw[T.first n0 A,o.first k (by dsimp only at hk;omega) n0]
   ·have T:=r3 k (by dsimp only at A;omega) A;have:=T.val t _ (E k (by omega) U t K);dsimp only;rw[st];by_cases g:t<q.L[i].To
    ·have ea:kg q.L[i] k t=mulR (dL q.L[i].ae k) q.L[i].ay:=by unfold kg;rw[if_pos ⟨by omega,g⟩]
     rw[if_pos ⟨K,g⟩] at this;rw[ea,<-IX];exact this
    ·have ea:kg q.L[i] k t=bV:=by unfold kg;rw[if_neg λW=>g W.2]
     rw[if_neg (show ¬(q.aQ<=t/\t<(eE q.L[i]).pa) from λW=>g W.2)] at this;rw[ea,IS];exact this
 ·obtain ⟨y,M⟩:=x;obtain ⟨rfl,N,o,E⟩:=G;dsimp only at N o E ⊢;rw[if_neg (by simp)];rw[yt,xO] at E;rw[yt] at o;refine jm q.aA.length (λi x=>x.1=(i:Int)/\x.2.length=q.S.aj.length/\DR x.2 q.aQ (1+2 * (q.L.length+i))/\∀(k:Nat)(A:k<x.2.length)(t:Int),q.aQ<=t->za x.2[k] t (bI { q with aA:=q.aA.take i } k t)) (λi x f hi G Y=>?_) (λx f G=>?_) ⟨rfl,N,by simpa using o,λk A t K=>?_⟩ (by omega)
  ·obtain ⟨y,M⟩:=x;obtain ⟨rfl,N,o,E⟩:=G;dsimp only at N o E ⊢;have bk:=hq.cA.each i hi;have lv:=h.live _ (bH hi);have nd:=bk.one.node;obtain ⟨n,en⟩:∃n:Nat,q.aA[i].Node=(n:Int):=⟨q.aA[i].Node.toNat,by omega⟩;have hn:n<M.length:=by omega
   have ab:n<q.S.aj.length:=by omega
   obtain ⟨sk,lk⟩:=o.each n hn;have f0:=o.first n hn sk.ne;rw[if_pos (cK hi),dV,bX hi,aw,if_neg (by simp;omega),en,bX hn,aw,bX ab,aw];have nv:=JA hq.spec ab;have an:kI q.S.aj (n:Int)=q.S.aj[n]:=Bk ab;have X:∀t,q.aQ<=t->q.aA[i].bQ<=t->t<q.aA[i].To->bI { q with aA:=q.aA.take i } n t=q.S.aj[n]:=λt h1 U h3=>by
    unfold bI;rw[if_neg]
    ·have:=h.uB _ (bH hi) t U h1;rw[en] at this;show fA (kI q.S.aj n) (ba q.L n t)=_;rw[this,an];exact dW λc=>by rw[Dz,OO];omega
    ·rintro ⟨b,Q,m1,m2,m3⟩;obtain ⟨j,hj,rfl⟩:=OT.1 Q;rw[DB] at hj;simp only[RL] at m1 m2 m3;refine (bk.up j (by omega) (by omega)).2 ⟨by rw[m1,en],by omega,bk.one.span,by omega,by omega⟩
   have ax:=bk.one.lo;have a0:=bk.one.hi;have sp:=bk.one.span;have mx:∀P:Int->Prop,P (if q.aQ > q.aA[i].bQ then q.aQ else q.aA[i].bQ)=P (max q.aQ q.aA[i].bQ):=λP=>by congr 1;split <;> omega
   rw[show (if q.aQ > q.aA[i].bQ then q.aQ else q.aA[i].bQ)=max q.aQ q.aA[i].bQ by split <;> omega]
   refine (yr (by omega) sk nv (by omega) (show max q.aQ q.aA[i].bQ<q.aA[i].To by omega) (by omega) λt v h1 U hv c=>?_).bind λr aa=>?_
   ·have ev:=hv.Cq sk (E n hn t (by omega));rw[ev,X t (by omega) (by omega) U];exact Py _
   ·obtain ⟨r1,T⟩:=aa;rw[if_neg (by simp[r1]),xk,bT (show i<1000000 by omega),Int.toNat_natCast];refine Y _ ⟨rfl,by simp[N],⟨λk hk=>?_,λk hk A=>?_⟩,λk A t K=>?_⟩
    ·by_cases g:n=k
     ·subst g;have e:(M.set n r.1)[n]'(by simpa using hn)=r.1:=yBD _;show dG (M.set n r.1)[n]/\(M.set n r.1)[n].length<=_;rw[e];exact ⟨T.ok,by have:=T.len;omega⟩
     ·have d:k<M.length:=by simpa using hk
      have e:(M.set n r.1)[k]'(by simpa using d)=M[k]:=yBM g _;show dG (M.set n r.1)[k]/\(M.set n r.1)[k].length<=_;rw[e];have:=o.each k d;exact ⟨this.1,by have:=this.2;omega⟩
    ·by_cases g:n=k
     ·subst g;have e:(M.set n r.1)[n]'(by simpa using hn)=r.1:=yBD _;simp only[e];rw[T.first sk.ne T.ok.ne,f0]
     ·have d:k<M.length:=by simpa using hk
      have e:(M.set n r.1)[k]'(by simpa using d)=M[k]:=yBM g _;simp only[e];exact o.first k d (o.each k d).1.ne
    ·have d:k<M.length:=by simpa using A
     have p:Fv (q.aA.take (i+1)) k t↔Fv (q.aA.take i) k t\/(q.aA[i].Node=(k:Int)/\q.aA[i].bQ<=t/\t<q.aA[i].To):=by
      unfold Fv;rw[Ib hi];constructor
      ·rintro ⟨b,Q,m⟩;rcases mC.1 Q with g | g
       ·exact .inl ⟨b,g,m⟩
       ·rw[Bp.1 g] at m;exact .inr m
      ·rintro (⟨b,g,m⟩ | m)
       ·exact ⟨b,yBG _ g,m⟩
       ·exact ⟨_,yBB _ (Bp.2 rfl),m⟩
     by_cases g:n=k
     ·subst g;have e:(M.set n r.1)[n]'(by simpa using hn)=r.1:=yBD _;simp only[e];have WD:=E n hn t K;have new:=T.val t _ WD;by_cases W:q.aA[i].bQ<=t/\t<q.aA[i].To
      ·rw[if_pos ⟨by omega,W.2⟩,X t K W.1 W.2] at new;have:bI { q with aA:=q.aA.take (i+1) } n t=bV:=by
        unfold bI;rw[if_pos];exact p.2 (.inr ⟨en,W⟩)
       rw[this];have z:fA q.S.aj[n] q.S.aj[n]=bV:=dW λc=>by rw[Dz,OO];omega
       rw[z] at new;exact new
      ·rw[if_neg λR=>W ⟨by omega,R.2⟩] at new;have:bI { q with aA:=q.aA.take (i+1) } n t=bI { q with aA:=q.aA.take i } n t:=by
        unfold bI;by_cases R:Fv (q.aA.take i) n t
        ·rw[if_pos (show Fv (q.aA.take (i+1)) n t from p.2 (.inl R)),if_pos (show Fv (q.aA.take i) n t from R)]
        ·rw[if_neg (show ¬Fv (q.aA.take (i+1)) n t from λg4=>(p.1 g4).elim R λg5=>W g5.2),if_neg (show ¬Fv (q.aA.take i) n t from R)]
       rw[this];exact new
     ·have e:(M.set n r.1)[k]'(by simpa using d)=M[k]:=yBM g _;simp only[e];have:bI { q with aA:=q.aA.take (i+1) } k t=bI { q with aA:=q.aA.take i } k t:=by
       unfold bI;by_cases R:Fv (q.aA.take i) k t
       ·rw[if_pos (show Fv (q.aA.take (i+1)) k t from p.2 (.inl R)),if_pos (show Fv (q.aA.take i) k t from R)]
       ·rw[if_neg (show ¬Fv (q.aA.take (i+1)) k t from λg4=>(p.1 g4).elim R λg5=>by rw[en] at g5;omega),if_neg (show ¬Fv (q.aA.take i) k t from R)]
      rw[this];exact E k d t K
  ·obtain ⟨y,M⟩:=x;obtain ⟨rfl,N,o,E⟩:=G;dsimp only at N o E ⊢;rw[if_neg (by simp),aY];rw[xO] at E;exact ⟨M,rfl,N,o,E⟩
  ·have e:bI { q with aA:=q.aA.take 0 } k t=fA (kI q.S.aj k) (ba q.L k t):=by
    unfold bI;rw[if_neg];rintro ⟨b,Q,_⟩;simp at Q
   have O:k<q.S.aj.length:=by dsimp only at A;omega
   rw[e,Bk O];exact E k A O t K
 ·have d:k<q.S.aj.length:=by simpa using hk
  have e:((q.S.aj).map λr=>[({ At:=q.aQ,cw:=r }:bY)])[k]'(by simpa using d)=[{ At:=q.aQ,cw:=q.S.aj[k] }]:=Wu ..;simp only[e];exact ⟨NV ad (JA hq.spec d),by simp⟩
 ·have e:((q.S.aj).map λr=>[({ At:=q.aQ,cw:=r }:bY)])[k]'(by simpa using U)=[{ At:=q.aQ,cw:=q.S.aj[k] }]:=Wu ..;simp only[e];have z:fA q.S.aj[k] (ba (q.L.take 0) k t)=q.S.aj[k]:=dW λc=>by rw[Dz];simp[ba,OO]
  rw[z];exact af _ t K
end Go.Plain
end
section
namespace Go.Plain
open Go.Abs
def zeroJ:aJ:={ Id:=0,ca:=0,Queue:=0,aM:=0,ay:={ bF:=0,Mem:=0,bJ:=0,bL:=0 },aR:=0,aF:=[],State:=0,Ok:=false,cL:=false,aK:=0,cQ:=0,Start:=0,End:=0,Array:=0 }
theorem YV{l:List aJ}(hl:l.length<=300)(hs:bS l)(id:Int):bO (zaL 5000 l id) λr=>(r.2=true↔∃j∈l,j.Id=id)/\(r.2=true->At l id r.1):=by
 unfold zaL;rw[jO];refine half hl hs id (λj=>some (decide (j.Id<id))) (λj hj=>rfl) (λi=>some i) (λi hi d g=>?_) _ (λf x=>?_)
 ·rw[aY,bx];refine ⟨λh=>?_,λh=>?_⟩
  ·simp only[bB] at h;have a:i<l.length:=by omega
   rw[bX a,aw,aY];simp only[mV];refine ⟨⟨λe=>⟨_,bH a,e⟩,λ⟨j,b,e⟩=>?_⟩,λe=>⟨by omega,by omega,by simp_all⟩⟩;obtain ⟨k,hk,rfl⟩:=jV b;rcases Wx k i with q | q | q
   ·grind
   ·simp_all
   ·have:=hs.lt q hk;grind
  ·simp only[bB] at h;simp only[aY,bU,Gr,false_implies,NG]
   grind [List.getElem_of_mem]
 grind
section
variable{l:List aJ}
theorem IV(hl:l.length<=300)(hs:bS l){k:Nat}(hk:k<l.length):zaL 5000 l l[k].Id=some ((k:Int),true):=by obtain ⟨⟨r,b⟩,e,d,f⟩:=YV hl hs l[k].Id;have hb:b=true:=d.2 ⟨_,bH hk,rfl⟩;subst hb;have a:At l l[k].Id r:=f rfl;have:=hs.inj a.hi hk a.is;have:=a.lo;rw[e,show r=(k:Int) by omega]
theorem uZ{j:aJ}(h:fy j):zeX 5000 j=some true:=by obtain ⟨r,e,q⟩:=Cc j;rw[e,q.2 h]
theorem RD(hs:bS l){k:Nat}(hk:k<l.length){j:aJ}(d:j.Id=l[k].Id):bS (l.set k j):=by
 have a:∀i (h:i<l.length),((l.set k j)[i]'(by simp_all)).Id=l[i].Id:=λi h=>by grind
 intro i hi;have b:i+1<l.length:=by simp_all
 rw[a i (by omega),a (i+1) b];exact hs i b
end
def Kq(x:Int):Int:=if x≥281474976710656 then 0 else x+1
theorem Mw{x:Int}(h:0<=x):gn 5000 x=some (Kq x):=by
 unfold gn Kq;simp only[bB]
 grind [wr]
def mS(Q:List Int)(q:Int):List Int:=if 0<=q/\q<Q.length then Q.set q.toNat (Kq (Q[q.toNat]?.getD 0)) else Q
theorem PT(Q:List Int)(q:Int):(mS Q q).length=Q.length:=by grind [mS]
def jS(Q:List Int):Prop:=∀x∈Q,0<=x/\x<=281474976710656
theorem SU{x:Int}(h:0<=x/\x<=281474976710656):0<=Kq x/\Kq x<=281474976710656:=by grind [Kq]
theorem Ia{Q:List Int}(h:jS Q)(q:Int):jS (mS Q q):=by
 unfold mS;split
 ·rename_i hq;have hl:q.toNat<Q.length:=by omega
  intro x a;rcases yCn a with e | e
  ·exact h x e
  ·subst e;rw[eI hl];exact SU (h _ (bH hl))
 ·exact h
theorem MH{Q:List Int}(h:jS Q)(q:Int):zbg 5000 Q q=some (mS Q q):=by
 unfold zbg mS;by_cases hq:0<=q/\q<Q.length
 ·rw[if_pos (by simp_all),if_pos hq];obtain ⟨a,e⟩:=EL (l:=Q) hq.1 hq.2;rw[e,aw,Mw (h _ (bH a)).1,aw,aw,eI a];rfl
 grind
def jJ(Q:List Int)(a b:Int):List Int:=if b=a then mS Q a else mS (mS Q a) b
theorem NX(Q:List Int)(a b:Int):(jJ Q a b).length=Q.length:=by grind [jJ,PT]
theorem Pr{Q:List Int}(h:jS Q)(a b:Int):jS (jJ Q a b):=by grind [jJ,Ia]
section
variable{l:List aJ}
def EU(x:Int):Prop:=x=1\/x=2
instance (x:Int):Decidable (EU x):=by unfold EU;infer_instance
theorem QV(x:Int):jr 5000 x=some (decide (EU x)):=by unfold jr;congr 1;rw[Bool.eq_iff_iff];rw[bB];simp only[gC,mV,EU]
end
structure TK (st:bZ):Prop where
 bn:st.ai.length<=300
 after:∀j∈st.ai,j.aF.length<=10
 b_:st.ah.length<=300
 asc:Az st.ah
 ids:∀a∈st.ah,0<=a.aS/\a.aS<=1048576
 sh:∀a∈st.ah,a.ae.length<=300
 cA:st.aA.length<=20
 use:st.gz.length<=20
 stamps:st.az.am.length<=20
theorem Eg{s:a_}{st:bZ}(hw:lX s st)(q:bg s st):TK st:=
 ⟨hw.bn,hw.after,hw.b_,Cu q,HE q,hw.sh,hw.cA,hw.use,hw.stamps⟩
theorem YZ{st:bZ}(h:TK st) :
  Qh 5000 st.az.am st.ai (st.ah.map λa=>(a.aS,a)) st.aQ st.Next st.cR st.aA st.gz st.az.aj=some st:=by
 have hl:=h.bn;have hb:=h.cA;have b:=h.use;have hs:=h.stamps;unfold Qh;rw[LV (by omega) h.after,aw,show aZ 5000 (st.ah.map λa=>(a.aS,a))=some st.ah from EJ h.b_ h.asc h.ids h.sh,aw,CI (by omega),aw,ry (by omega),aw,show zb8 5000 st.az.am=some st.az.am from yI (by omega),aw]
theorem Qf{st:bZ}(h:TK st):zbj 5000 st st=some true:=by have a:=h.bn;have b:=h.use;have d:=h.stamps;have e:=h.cA;unfold zbj;rw[if_pos (by simp),IC _ (by omega) h.after,aw,if_pos rfl,CJ _ h.b_ h.sh,aw,if_pos rfl,Ge _ (by omega),aw,if_pos rfl,wo _ (by omega),aw,if_pos rfl,wo _ (by omega),aw];simp
end Go.Plain
end
section
namespace Go.Plain
open Go.Abs
section
variable{l:List aJ}
theorem get_some(hl:l.length<=300)(hs:bS l){k:Nat}(hk:k<l.length)(a:l[k].aF.length<=1000):zbA 5000 l l[k].Id=some (l[k],true):=by unfold zbA;rw[IV hl hs hk,aw];simp only[Pb,bU,cu];rw[bX hk,aw,DE (by omega),aw]
theorem job_some(hl:l.length<=300)(hs:bS l){k:Nat}(hk:k<l.length)(a:l[k].aF.length<=1000):zcX 5000 l l[k].Id=some (l[k],true):=by unfold zcX;rw[get_some hl hs hk a,aw]
end
end Go.Plain
end
section
namespace Go.Plain
open Go.Abs
def Nh(st:bZ)(id:Int):aJ:=(st.ai.find? λj=>j.Id == id).getD zeroJ
theorem jobOf_eq{st:bZ}(hs:bS st.ai){i:Nat}(hi:i<st.ai.length):Nh st st.ai[i].Id=st.ai[i]:=by
 unfold Nh;obtain ⟨j,e⟩:∃j,st.ai.find? (λj=>j.Id == st.ai[i].Id)=some j:=by
  cases h:st.ai.find? (λj=>j.Id == st.ai[i].Id) with
  |some j=>simp_all
  |none=>
   have:=List.find?_eq_none.1 h _ (bH hi)
   simp_all
 rw[e,SH];have a:=List.find?_some e;simp only[mV] at a;obtain ⟨k,hk,rfl⟩:=jV (yBA e);have:=hs.inj hk hi a
 simp_all
def uk(st:bZ)(a:bG):Int:=(Nh st a.aS).Start+(Nh st a.aS).aR
def eV(st:bZ)(a:bG):BZ:={ bQ:=st.aQ,To:=uk st a,ay:=a.ay,ae:=a.ae }
def yi(s:a_)(st:bZ):gR:={ S:=s,aQ:=st.aQ,L:=st.ah.map (eV st),aA:=st.aA }
section
variable{s:a_}{st:bZ}(hw:lX s st)(q:bg s st)
include hw q
theorem wL{a:bG}(b:a∈st.ah):∃i,∃h:i<st.ai.length,st.ai[i].Id=a.aS/\eX s st st.ai[i] a/\tA st.ai[i]=true/\Nh st a.aS=st.ai[i]:=by obtain ⟨j,hj,P⟩:=eL.mem q.b_ a b;obtain ⟨d,e⟩:=RI.1 hj;obtain ⟨i,hi,rfl⟩:=jV d;exact ⟨i,hi,P.Gk.symm,P,e,by rw[P.Gk];exact jobOf_eq q.bn.bM hi⟩
theorem Fa{a:bG}(b:a∈st.ah):st.aQ<uk st a/\uk st a<=st.aQ+65536:=by
 obtain ⟨i,hi,_,P,_,e⟩:=wL hw q b;have j:=q.bn.each _ (bH hi);have d:=P.now;have f:=j.start;have g:=j.ok.wall
 grind [uk]
omit hw q in
theorem Nb{H:List aJ}{A:List bG}{F:List aE}(h:eL s st H A F):A.length=H.length:=by
 induction H generalizing A F with
 |nil=>rw[show A=[] from h];rfl
 |cons j H ih=>obtain ⟨b,a,rfl,_,_,d⟩:=h;grind
theorem rZ:st.ah.length<=st.ai.length:=by rw[Nb q.b_];grind
omit hw q in
theorem Ck(L:List BZ)(k t:Int)(c:Nat):cmp c (ba L k t)=(L.map λu=>cmp c (kg u k t)).sum:=by
 have:∀(L:List BZ)(r:aE),cmp c (L.foldl (λr u=>Ca r (kg u k t)) r)=cmp c r+(L.map λu=>cmp c (kg u k t)).sum:=by
  intro L;induction L with
  |nil=>simp_all
  |cons u L ih=>grind [wH]
 grind [ba.eq_1,OO]
omit hw q in
theorem caps_of{H:List aJ}{A:List bG}{F:List aE}(h:eL s st H A F)(g:∀r∈F,aN r)(a:∀j∈H,aN j.ay)(k:Nat)(hk:k<F.length)(t:Int)(c:Nat):((A.map (eV st)).map λu=>cmp c (kg u k t)).sum<=cmp c F[k]:=by
 induction H generalizing A F with
 |nil=>
  rw[show A=[] from h]
  grind [wB,List.getElem_mem]
 |cons j H ih=>
  obtain ⟨b,m,rfl,P,d,e⟩:=h;have hl:k<(lj F b).length:=by grind [ze1]
  have:=ih e (ve d) (λi hi=>a i (pN _ hi)) hl;rw[nE hl] at this;unfold qk at this;rw[Dz] at this;rw[tX,tX,List.sum_cons];have le:cmp c (kg (eV st b) k t)<=cmp c (mulR (dL b.ae k) b.ay):=by
   unfold kg;split
   ·exact Py _
   ·rw[OO];rw[B_];have o:=yL (l:=b.ae) (λx f=>by have:=(P.iR.shares.mem x f);omega) k;rw[P.need];exact yBZ o (wB.1 (a j (tD ..)) c).1
  omega
theorem OJ:∀u∈(yi s st).L,rN u s.aj.length:=λu f=>by
 obtain ⟨a,d,rfl⟩:=iS.1 f;obtain ⟨i,hi,_,P,_,e⟩:=wL hw q d;have j:=q.bn.each _ (bH hi);have b:=Fa hw q d;have n:=q.nums.now;refine ⟨P.iR.shares,hw.sh a d,?_,n.1,?_⟩
 ·show aN a.ay;rw[P.need];exact j.ok.need
 ·show uk st a<=_;omega
theorem RK(a:st.ai.length<=30):sf (yi s st):={
 spec:=q.spec
 now:=q.nums.now
 cA:=q.ju.cA
 used:=OJ hw q
 yh:=by have:=rZ hw q;show (st.ah.map (eV st)).length<=100;grind }
theorem newOk_of(f:st.ai.length<=30):Xx (yi s st):={
 ref:=RK hw q f
 lo:=λu hu=>by obtain ⟨a,d,rfl⟩:=iS.1 hu;exact ⟨rfl,(Fa hw q d).1⟩
 caps:=λi k hk t c=>by
  have n:=caps_of q.b_ q.spec.nodes.ok (λj hj=>(q.bn.each j (RI.1 hj).1).ok.need) k hk t c;rw[Ck];show ((((st.ah.map (eV st)).take i)).map λu=>cmp c (kg u k t)).sum<=cmp c s.aj[k];have o:((st.ah.map (eV st)).map λu=>cmp c (kg u k t)).sum=(((st.ah.map (eV st)).take i).map λu=>cmp c (kg u k t)).sum+(((st.ah.map (eV st)).drop i).map λu=>cmp c (kg u k t)).sum:=by grind [List.take_append_drop]
  have K:0<=(((st.ah.map (eV st)).drop i).map λu=>cmp c (kg u k t)).sum:=by
   have:∀M:List BZ,(∀u∈M,rN u s.aj.length)->0<=(M.map λu=>cmp c (kg u k t)).sum:=by
    intro M;induction M with
    |nil=>simp_all
    |cons u M ih=>
     intro h;have:=ih λv p=>h v (pN _ p);have:=Ji (h u (tD ..)) k t c
     grind
   exact this _ λu hu=>OJ hw q u (yBp hu)
  omega
 live:=λb hb=>(q.ju.live b hb).2
 uB:=λb hb t n o=>dW λc=>by
  rw[Ck,OO];show ((st.ah.map (eV st)).map λu=>cmp c (kg u b.Node t)).sum=0;have:∀x∈(st.ah.map (eV st)).map λu=>cmp c (kg u b.Node t),x=0:=λx r=>by
   obtain ⟨u,hu,rfl⟩:=iS.1 r;obtain ⟨a,d,rfl⟩:=iS.1 hu;obtain ⟨i,hi,A,P,_,e⟩:=wL hw q d;by_cases g:∃y∈a.ae,y.Node=b.Node
   ·obtain ⟨y,E,G⟩:=g;have:=q.ju.uB a d _ (bH hi) A y E b hb G.symm;unfold kg;rw[if_neg,OO];show ¬(st.aQ<=t/\t<uk st a)
    grind [uk]
   ·have z:dL a.ae b.Node=0:=by
     grind [Au]
    unfold kg;split
    ·show cmp c (mulR (dL a.ae b.Node) a.ay)=0
     grind [B_]
    grind [OO]
  have m:∀M:List Int,(∀x∈M,x=0)->M.sum=0:=by
   intro M;induction M with
   |nil=>simp_all
   |cons x M ih=>simp_all
  simp_all }
theorem Uz{i:Nat}(hi:i<st.ai.length)(h:tA st.ai[i]=true):wU 5000 st.ai[i]=some (st.ai[i].Start+st.ai[i].aR):=by have j:=q.bn.each _ (bH hi);have a:=j.ok.wall;have b:=j.ok.start;unfold wU ee;rw[dV,uZ j.ok,aw,if_neg (by simp),aw];dsimp only;unfold tA at h;rw[h,if_neg (by simp),wr (by omega) (by omega)]
theorem GN(b:st.ai.length<=30){g:List (Int×bG)}(h:Qh 5000 st.az.am st.ai g st.aQ st.Next st.cR st.aA st.gz st.az.aj=some st):∃nodes,zdu 5000 st.az.am st.ai g s.aj s.aH s.am s.aT s.aq.mG s.aq.de s.aq.f_ s.aq.bW s.cj s.Mode s.ai s.kX s.aI s.br s.dm s.In s.Out s.ce st.aQ st.Next st.cR st.aA st.gz st.az.aj=some (.inr (nodes,st.aQ,s.aH))/\PR nodes (yi s st) (1+2 * (st.ah.length+st.aA.length)):=by
 have hl:=hw.bn;have t:=hw.b_;obtain ⟨r,e,nodes,rfl,hp⟩:=MG (newOk_of hw q b);have m:(yi s st).L.length=st.ah.length:=yt ..;rw[m] at hp;refine ⟨nodes,?_,hp⟩;unfold zdu;rw[h,aw];have z:Gv ({ ay:=({ bF:=0,Mem:=0,bJ:=0,bL:=0 }:aE),ae:=[],pa:=0 }:jC) 0 (st.ah.length:Int)=some []:=by
  unfold Gv
  grind
 rw[z,aw];refine bO.eq (jm st.ah.length (λi x=>x=((i:Int),(st.ah.take i).map λa=>eE (eV st a))) (λi x f hi d n=>?_) (λx f d=>?_) rfl (by omega))
 ·subst d;have o:=bH hi;obtain ⟨k,hk,p,P,hj,u⟩:=wL hw q o;dsimp only;rw[if_pos (cK hi),bX hi,aw,<-p,job_some hl q.bn.bM hk (by have:=hw.after _ (bH hk);omega),aw,Uz hw q hk hj,aw,Cj (by grind),aw,bT (show i<1000000 by omega)];refine n _ ?_;rw[Ib hi,yCc];have:eE (eV st st.ah[i])={ ay:=st.ah[i].ay,ae:=st.ah[i].ae,pa:=st.ai[k].Start+st.ai[k].aR }:=by
   grind [eE,eV,uk]
  simp_all
 ·subst d;dsimp only;rw[if_neg (by simp),rT hw.spec,aw,xO];have:(st.ah.map λa=>eE (eV st a))=(yi s st).L.map eE:=by show _=(st.ah.map (eV st)).map eE;simp_all
  rw[this];have v:ze3 5000 ((yi s st).L.map eE) s st.aQ st.aA=some (.inr (nodes,st.aQ,s.aH)):=e
  grind [aY]
end
end Go.Plain
end
section
namespace Go.Plain
open Go.Abs
theorem few30P(s:a_)(st:bZ):bO (zci 5000 s st) λr=>r=true->st.ai.length<=30:=by
 simp only[zci,dV];refine (few07 s).bind λr b=>?_;simp only[if_true,aY,bx];refine ⟨by simp,λh=>?_⟩;refine (few17 st.ai).bind λd a=>?_;simp only[bx,aY];refine ⟨by simp,λh=>?_⟩;simp only[gC,bB,not_or,Int.not_lt,gV,oT] at h;obtain ⟨⟨⟨⟨h,e⟩,g⟩,k⟩,m⟩:=h;have n:=a h;refine vo st.ah (λ_ q=>True) (λi f h _ b=>?_) (λf hq=>?_) (by omega)
 ·simp only[cK h,if_true,bX h,aw,bT (show i<1000000 by omega),bx,aY,bB]
  simp_all
 ·simp only[ed,bU,cu,aY];omega
def eH(s:a_)(j:aJ):Cw:={ Part:=((s.am[j.Queue.toNat]?).getD default).Part,aM:=j.aM,ay:=j.ay,aR:=j.aR }
theorem Aw{s:a_}{j:aJ}(hq:0<=j.Queue/\j.Queue<s.am.length):∃h:j.Queue.toNat<s.am.length,aC s.am j.Queue=some s.am[j.Queue.toNat]/\eH s j={ Part:=s.am[j.Queue.toNat].Part,aM:=j.aM,ay:=j.ay,aR:=j.aR }:=by grind [EL,eH]
theorem Cp{s:a_}{st:bZ}{q:gR}(k:bo s)(eq:q.S=s){j:aJ}(h:iT s st j):iB q (eH s j):=by obtain ⟨a,_,e⟩:=Aw ⟨h.ok.queue.1,h.queue⟩;have b:=k.ij.ok _ (bH a);have m:=h.ok.many;rw[e];exact ⟨by rw[eq];exact b.part,by grind,h.ok.need,h.ok.vI,h.ok.wall⟩
def named(j:aJ)(r:jN×Bool):jN×Bool:=if r.2=true then ({ aS:=j.Id,At:=r.1.At,ae:=r.1.ae },true) else ({ aS:=0,At:=0,ae:=[] },false)
section
variable{nodes:List (List bY)}{q:gR}{L:Nat}(hL:L<=200)(hq:sf q)(hp:PR nodes q L){st:bZ}{j:aJ}(hj:iT q.S st j)
include hL hq hp hj
end
section
variable{nodes:List (List bY)}{q:gR}{L:Nat}(hL:L<=200)(hq:sf q)(hp:PR nodes q L){w:Cw}(hw:iB q w)
include hL hq hp hw
end
end Go.Plain
end
section
namespace Go.Plain
open Go.Abs
theorem Jc{l:List cO}{n:Int}(h:bm l n){y:cO}(hl:∀x∈l,x.Node<y.Node)(a:0<=y.Node/\y.Node<n)(hm:1<=y.aM/\y.aM<=64):bm (l++[y]) n:=λi hi=>by
 rw[Bv,List.length_singleton] at hi;by_cases g:i<l.length
 ·have s:=h i g;have e:(l++[y])[i]'(by omega)=l[i]:=yCw g;rw[e];refine ⟨?_,s.lt,s.lo,s.hi⟩;have:Lv ((l++[y]).map (·.Node)) i=Lv (l.map (·.Node)) i:=by
   cases i with
   |zero=>rfl
   |succ i=>grind [rQ]
  rw[this];exact s.up
 ·have b:i=l.length:=by omega
  subst b;have e:(l++[y])[l.length]'(by simp)=y:=by simp
  rw[e];refine ⟨?_,a.2,hm.1,hm.2⟩;cases d:l.length with
  |zero=>show (-1:Int)<y.Node;omega
  |succ i=>grind [rQ]
section
variable{F:List aE}{l:List Int}{need:aE}(hP:px F l)(hR:nz l F.length)(hn:aN need)(hz:need≠bV)
include hP hR hn hz
structure PX (F:List aE) (need:aE) (l:List Int) (x:Int×List cO) (many:Int):Prop where
 shares:bm x.2 F.length
 mem:∀y∈x.2,y.Node∈l/\y.aM<=dH (kI F y.Node) need
 Sm:x.1+kK x.2=many
 left:x.1=if many<=cT F l need then 0 else many-cT F l need
theorem Pm{many:Int}(hm:1<=many)(i:Nat):PX F need (l.take i) (sJ F need (l.take i) many) many:=by
 induction i with
 |zero=>refine ⟨λi h=>by grind [sJ],λy a=>by grind [sJ],by simp[sJ,kK],?_⟩;simp only[sJ,List.take_zero,List.foldl_nil,cT,List.map_nil,List.sum_nil];omega
 |succ i ih=>
  by_cases hi:i<l.length
  ·have c:=pd hP hn (bH hi);have st:=vh hP hn hz hi many;have rs:=zn hP hn hz hi;have up:∀n∈l.take i,n<l[i]:=λn d=>by
    obtain ⟨j,hj,rfl⟩:=OT.1 d;rw[DB] at hj;rw[RL];have:∀m,j<m->∀(hm:m<l.length),l[j]<l[m]:=by
     intro m;induction m with
     |zero=>omega
     |succ m f=>
      intro g hm;have s:=(hR (m+1) hm).1
      grind [qL]
    grind
   have b:∀n,n∈l.take (i+1)↔n∈l.take i\/n=l[i]:=λn=>by rw[Ib hi,mC,Bp]
   have k:=ih.left;have o:=zc hP hn hz (i:=i);rw[st];generalize sJ F need (l.take i) many=x at *;have p:0<=x.1:=by omega
   unfold plS;by_cases q:IK x.1 (dH (kI F l[i]) need)=0
   ·rw[if_pos q];refine ⟨ih.shares,λy a=>⟨(b _).2 (.inl (ih.mem y a).1),(ih.mem y a).2⟩,ih.Sm,?_⟩
    grind [IK]
   ·rw[if_neg q];have hb:=hP.node _ (bH hi);have e:1<=IK x.1 (dH (kI F l[i]) need)/\IK x.1 (dH (kI F l[i]) need)<=64/\IK x.1 (dH (kI F l[i]) need)<=dH (kI F l[i]) need:=by
     unfold IK at q ⊢;omega
    refine ⟨Jc ih.shares (λy a=>up _ (ih.mem y a).1) hb ⟨e.1,e.2.1⟩,λy a=>?_,?_,?_⟩
    ·rcases mC.1 a with a | a
     ·exact ⟨(b _).2 (.inl (ih.mem y a).1),(ih.mem y a).2⟩
     simp_all
    ·grind [PX.Sm,kK]
    grind [IK]
  grind [List.take_of_length_le]
theorem Um{many:Int}(h:(DA F l many need).2=true):bm (DA F l many need).1 F.length/\kK (DA F l many need).1=many/\(∀y∈(DA F l many need).1,y.Node∈l)/\∀(n:Nat)(hn:n<F.length),yj (mulR (dL (DA F l many need).1 n) need) F[n]\/dL (DA F l many need).1 n=0:=by
 obtain ⟨m,u⟩:=Co.1 h;have P:=Pm hP hR hn hz m l.length;rw[xO] at P;have e:DA F l many need=((sJ F need l many).2,true):=by unfold DA;simp_all
 rw[e];have z:=P.left;rw[if_pos u] at z;refine ⟨P.shares,by grind [PX.Sm],λy f=>(P.mem y f).1,λn p=>?_⟩;dsimp only;by_cases g:∃y∈(sJ F need l many).2,y.Node=(n:Int)
 ·left;obtain ⟨y,f,v⟩:=g;obtain ⟨m1,r⟩:=P.mem y f;obtain ⟨i,hi,rfl⟩:=jV f;have o:=Kf P.shares hi;rw[v] at o m1 r;have x:kI F (n:Int)=F[n]:=Bk p;have t:=hP.XZ _ m1;rw[x] at r t;have k:=wz t hn;rw[o];have d:∀a b:Int,(a,b)∈Gy F[n] need->0<=b->(sJ F need l many).2[i].aM * b<=a:=λa b A hb=>by
   have m:=k.fit _ A;dsimp only at m;have:(sJ F need l many).2[i].aM * b<=dH F[n] need * b:=yAW r hb;omega
  intro c;rw[B_]
  match c with
  |0=>exact d _ _ (by simp[Gy];exact .inl ⟨rfl,rfl⟩) hn.GK.1
  |1=>exact d _ _ (by simp[Gy];exact .inr (.inl ⟨rfl,rfl⟩)) hn.mem.1
  |2=>exact d _ _ (by simp[Gy];exact .inr (.inr (.inl ⟨rfl,rfl⟩))) hn.Jz.1
  |_+3=>exact d _ _ (by simp[Gy];exact .inr (.inr (.inr ⟨rfl,rfl⟩))) hn.Lw.1
 grind [Au]
end
def tP(q:gR)(u:BZ):gR:={ q with L:=q.L++[u] }
open Classical in
theorem Vn(q:gR)(u:BZ)(k t:Int):bI (tP q u) k t=if Fv q.aA k t then bV else fA (fA (kI q.S.aj k) (ba q.L k t)) (kg u k t):=by
 unfold bI tP;dsimp only;by_cases h:Fv q.aA k t
 ·simp_all
 ·rw[if_neg h,if_neg h,nK,IX]
theorem mulR_le{n:Int}{need v:aE}(hn:0<=n)(a:aN need)(h:yj (mulR n need) v\/n=0)(b:aN v):yj (mulR n need) v:=by
 rcases h with h | h
 ·exact h
 ·intro c
  grind [wB,B_]
theorem VY{nodes:List (List bY)}{q:gR}{L:Nat}(hL:L<=200)(hq:sf q)(hp:PR nodes q L){dg a:Int}{sh:List cO}{need:aE}(hs:bm sh q.S.aj.length)(hn:aN need)(hw:1<=a/\a<=65536)(A:q.aQ<=dg)(Y:dg<=1099511627776)
  (d:∀(k:Nat)(h:k<q.S.aj.length) t,dg<=t->t<dg+a->yj (mulR (dL sh k) need) (bI q k t)) :
  ∃b,zbf 5000 nodes dg sh need a q.aQ=some (b,0)/\PR b (tP q { bQ:=dg,To:=dg+a,ay:=need,ae:=sh }) (L+2):=by
 have i:=hp.len;have nn:=hq.spec.nodes.hi;have E:=hq.now;have sl:sh.length<=300:=by have:=jh hs (by omega);omega
 obtain ⟨Z,G,K⟩:=oY sh nodes.length sl;have:=K.2 (by simp_all);subst this;obtain ⟨r2,M,N⟩:=Uo need;have:=N.2 hn;subst this;obtain ⟨r,e,O,P,p⟩:=CH (by omega) hp.dg (by omega) (by simp_all) sl hn A (show dg<dg+a by omega) (by omega) λk hk t v ta tb Q=>by
  rw[(hp.iff hk (by omega)).1 Q]
  grind
 refine ⟨r.1,?_,?_⟩
 ·unfold zbf;rw[dV,if_neg (by simp_all),G,aw,if_neg (by simp),M,aw];have R:decide (a<1)=false:=by simp_all
  have U:decide (a > 65536)=false:=by simp_all
  dsimp only;rw[R,U,if_neg (by simp),wr (x:=dg+a) (by omega) (by omega),e,aw,O]
 ·refine ⟨by rw[P,i];rfl,⟨λk hk=>?_,λk hk W=>?_⟩,λk hk t X=>?_⟩
  ·have T:=p k (by omega) hk;exact ⟨T.ok,by have:=T.len;have:=(hp.dg.each k (by omega)).2;omega⟩
  ·have T:=p k (by omega) hk;have z:=(hp.dg.each k (by omega)).1.ne;rw[T.first z W,hp.dg.first k (by omega) z];rfl
  ·have n:k<nodes.length:=by omega
   have T:=p k n hk;have u:q.aQ<=t:=X;have v:=T.val t _ (hp.val k n t u);rw[Vn];by_cases g:dg<=t/\t<dg+a
   ·rw[if_pos g] at v;have y:kg { bQ:=dg,To:=dg+a,ay:=need,ae:=sh } k t=mulR (dL sh k) need:=by unfold kg;simp_all
    rw[y];by_cases m:Fv q.aA k t
    ·rw[if_pos m];have o:bI q k t=bV:=by unfold bI;simp_all
     have f:=d k (by omega) t g.1 g.2;rw[o] at f v;have:fA bV (mulR (dL sh k) need)=bV:=dW λc=>by
      have h2:=f c;have h3:=iC (sq hs k) (wB.1 hn c)
      grind [Dz,OO,B_]
     simp_all
    ·rw[if_neg m];have o:bI q k t=fA (kI q.S.aj k) (ba q.L k t):=by unfold bI;simp_all
     simp_all
   ·rw[if_neg g] at v;have y:kg { bQ:=dg,To:=dg+a,ay:=need,ae:=sh } k t=bV:=by unfold kg;grind
    rw[y];by_cases m:Fv q.aA k t
    ·rw[if_pos m];have o:bI q k t=bV:=by unfold bI;simp_all
     simp_all
    ·rw[if_neg m];have o:bI q k t=fA (kI q.S.aj k) (ba q.L k t):=by unfold bI;simp_all
     rw[o] at v;have:fA (fA (kI q.S.aj k) (ba q.L k t)) bV=fA (kI q.S.aj k) (ba q.L k t):=dW λc=>by simp only[Dz,OO];omega
     simp_all
end Go.Plain
end
section
namespace Go.Plain
open Go.Abs
abbrev K3:=Int×Int×Int
def SN(u v:K3):Prop:=u.1<v.1\/(u.1=v.1/\(u.2.1<v.2.1\/(u.2.1=v.2.1/\u.2.2<v.2.2)))
instance (u v:K3):Decidable (SN u v):=by unfold SN;infer_instance
theorem cmp1{N:Nat}(a b:Int):fG N a b=some (if a<b then -1 else if a > b then 1 else 0):=by
 simp only[fG,cmp_isNaN_int,aw];simp;split
 ·rfl
 ·split <;> rfl
theorem cmp3{N:Nat}(E:4<N)(u v:K3):bO (zaC N ([u.1,u.2.1,u.2.2]:List Int) ([v.1,v.2.1,v.2.2]:List Int)) λr=>(r<0↔SN u v):=by
 obtain ⟨N,rfl⟩:∃M,N=M+5:=⟨N-5,by omega⟩;obtain ⟨a,b,c⟩:=u;obtain ⟨d,e,f⟩:=v;unfold zaC;have o:i64.wrap (0+1)=1:=rfl;have w1:i64.wrap (1+1)=2:=rfl;have w2:i64.wrap (2+1)=3:=rfl;have p:∀x y z:Int,aC [x,y,z] 0=some x:=λ_ _ _=>rfl;have t:∀x y z:Int,aC [x,y,z] 1=some y:=λ_ _ _=>rfl;have A:∀x y z:Int,aC [x,y,z] 2=some z:=λ_ _ _=>rfl;simp only[bC,GO,yBE,cmp1,aw,o,w1,w2,p,t,A,SN];simp;by_cases g:a<d
 ·rw[if_pos g];simp[aY];omega
 ·rw[if_neg g];by_cases h:d<a
  ·rw[if_pos h];simp[aY];omega
  ·rw[if_neg h];by_cases i:b<e
   ·rw[if_pos i];simp[aY];omega
   ·rw[if_neg i];by_cases k:e<b
    ·rw[if_pos k];simp[aY];omega
    ·rw[if_neg k];by_cases m:c<f
     ·rw[if_pos m];simp[aY];omega
     ·rw[if_neg m];by_cases n:f<c
      ·rw[if_pos n];simp[aY];omega
      ·rw[if_neg n];simp[aY];omega
def Sd(p:List K3)(x:Int):K3:=p.getD x.toNat (0,0,0)
def Tj(p:List K3)(x:Int):Prop:=0<=x/\x<p.length
theorem WO{p:List K3}{x:Int}(h:Tj p x):aC p x=some (Sd p x):=by obtain ⟨a,e⟩:=EL h.1 h.2;rw[e,Sd,yAY,eI a];rfl
theorem DL{N:Nat}(d:4<N){p:List K3}{x y:Int}(e:Tj p x)(f:Tj p y) :
  bO ((aC p x).bind λa=>(aC p y).bind λb=>(zaC N ([a.1,a.2.1,a.2.2]:List Int) ([b.1,b.2.1,b.2.2]:List Int)).bind λr=>some r) λr=>(r<0↔SN (Sd p x) (Sd p y)):=by
 rw[WO e,WO f,aw,aw];exact (cmp3 d _ _).bind λr g=>aY.2 g
theorem dR{α:Type}{L R:List α}{y:α}{i:Int}(h:i=L.length):aC (L++y::R) i=some y:=by subst h;rw[bX (by simp)];simp
theorem jD{α:Type}{L R:List α}{y z:α}{i:Int}(h:i=L.length):(L++y::R).set i.toNat z=L++z::R:=by subst h;simp
theorem Bx{x y:Int}(h:x=y)(a:-9000000<=y)(b:y<9000000):i64.wrap x=y:=by rw[wr (by omega) (by omega)];exact h
theorem up_ok{N:Nat}{L V R:List Int}{y:Int}{k E:Int}(hk:k=L.length)(t:E=L.length+V.length)(O:V.length<N)(hs:(L++y::V++R).length<=1000) :
  bC (λh (d:Int×List Int)=>
     if (decide (d.1<E))=true then
      (aC d.2 (i64.wrap (d.1+1))).bind λe=>
      (aC d.2 d.1).bind λi=>
      (aC d.2 d.1).bind λu=>
      (aC (d.2.set d.1.toNat e) (i64.wrap (d.1+1))).bind λz=>
      h ((i64.wrap (d.1+1)),((d.2.set d.1.toNat e).set (i64.wrap (d.1+1)).toNat i))
     else
      some d.2) N (k,L++y::V++R)=some (L++V++y::R):=by
 apply bO.eq;simp only[Bv,GO] at hs;refine lpM (I:=λx=>∃b g,x=((b.length:Int),b++y::g++R)/\b++g=L++V/\E=b.length+g.length) (m:=λx=>(E-x.1).toNat) (λx f A G=>?_) ⟨L,V,by rw[hk],rfl,t⟩ (by omega);obtain ⟨b,g,rfl,n,o⟩:=A;have p:=Fp List.length n;simp only[Bv] at p;cases g with
 |nil=>simp only[yBE] at o;rw[if_neg (by simp;omega),aY,<-n];simp
 |cons v a=>
  simp only[GO] at o p;have w:i64.wrap ((b.length:Int)+1)=((b++[y]).length:Nat):=Bx (by simp) (by simp;omega) (by simp;omega);have K:b++y::v::a++R=(b++[y])++v::(a++R):=by simp
  have r:b++y::v::a++R=b++y::(v::a++R):=by simp
  have M:b++v::(v::a++R)=(b++[v])++v::(a++R):=by simp
  simp only;rw[if_pos (by simp;omega),w,show aC (b++y::v::a++R) ((b++[y]).length:Nat)=some v from by rw[K];exact dR rfl,xk,
   show aC (b++y::v::a++R) (b.length:Int)=some y from by rw[r];exact dR rfl,Option.bind_some,Option.bind_some,r,jD rfl,M,dR (by simp),Option.bind_some,jD (by simp)]
  refine G _ ⟨b++[v],a,by simp,by rw[<-n];simp,by simp;omega⟩ (by simp;omega)
theorem dn_ok{N:Nat}{L V R:List Int}{y:Int}{k E:Int}(hk:k=L.length+V.length)(G:E=L.length)(K:V.length<N)(hs:(L++V++y::R).length<=1000) :
  bC (λi (a:Int×List Int)=>
      if (decide (a.1 > E))=true then
       (aC a.2 (i64.wrap (a.1-1))).bind λe=>
       (aC a.2 a.1).bind λn=>
       (aC a.2 a.1).bind λp=>
       (aC (a.2.set a.1.toNat e) (i64.wrap (a.1-1))).bind λr=>
       i ((i64.wrap (a.1-1)),((a.2.set a.1.toNat e).set (i64.wrap (a.1-1)).toNat n))
      else
       some a.2) N (k,L++V++y::R)=some (L++y::V++R):=by
 apply bO.eq;simp only[Bv,GO] at hs;refine lpM (I:=λx=>∃g d,x=(((L++g).length:Int),L++g++y::d)/\g++d=V++R) (m:=λx=>(x.1-E).toNat) (λx f t u=>?_) ⟨V,R,by rw[hk];simp,rfl⟩ (by simp;omega);obtain ⟨g,d,rfl,h⟩:=t;have o:=Fp List.length h;simp only[Bv] at o;rcases List.eq_nil_or_concat g with rfl | ⟨b,v,rfl⟩
 ·rw[if_neg (by simp;omega),aY];simp at h;rw[h];simp
 ·simp only[yCi,Bv,GO,yBE] at o h ⊢;have w:i64.wrap (((L.length+(b.length+(0+1)):Nat):Int)-1)=((L++b).length:Nat):=Bx (by simp;omega) (by simp;omega) (by simp;omega);have z:L++(b++[v])++y::d=(L++b)++v::(y::d):=by simp
  have M:L++(b++[v])++y::d=(L++(b++[v]))++y::d:=rfl;have A:(L++(b++[v]))++v::d=(L++b)++v::(v::d):=by simp
  rw[if_pos (by simp;omega),w,show aC (L++(b++[v])++y::d) ((L++b).length:Nat)=some v from by rw[z];exact dR rfl,xk,
   dR (by simp),Option.bind_some,Option.bind_some,jD (by simp),A,dR (by simp),Option.bind_some,jD (by simp)]
  refine u _ ⟨b,v::d,by simp,by rw[<-h];simp⟩ (by simp;omega)
theorem Yy{N:Nat}{L U M V R:List Int}{a b n:Int}(ha:a=L.length)(hb:b=L.length+U.length+M.length)(hn:n=U.length)(E:V.length=U.length)(hN:U.length<N)(hs:(L++U++M++V++R).length<=1000) :
  bC (λr (d:Int×List Int)=>
          if (decide (d.1<n))=true then
           (aC d.2 (i64.wrap (b+d.1))).bind λp=>
           (aC d.2 (i64.wrap (a+d.1))).bind λt=>
           (aC d.2 (i64.wrap (a+d.1))).bind λG=>
           (aC (d.2.set (i64.wrap (a+d.1)).toNat p) (i64.wrap (b+d.1))).bind λK=>
           r ((i64.wrap (d.1+1)),((d.2.set (i64.wrap (a+d.1)).toNat p).set (i64.wrap (b+d.1)).toNat t))
          else
           some d.2) N (0,L++U++M++V++R)=some (L++V++M++U++R):=by
 apply bO.eq;simp only[Bv] at hs;refine lpM (I:=λx=>∃h k i o,x=((U.length:Int)-k.length,h++k++i++o++R)/\h++o++i++k++R=L++V++M++U++R/\o.length=k.length/\k.length<=U.length/\(h.length:Int)=a+U.length-k.length/\(h.length:Int)+k.length+i.length=b+U.length-k.length)
  (m:=λx=>(n-x.1).toNat) (λx f O P=>?_) ⟨L,U,M,V,by simp,rfl,E,by omega,by omega,by omega⟩ (by omega)
 obtain ⟨h,k,i,o,rfl,y,z,Q,T,W⟩:=O;cases k with
 |nil=>
  cases o with
  |nil=>rw[if_neg (by simp;omega),aY,<-y]
  |cons=>simp at z
 |cons u e=>
  cases o with
  |nil=>simp at z
  |cons v g=>
   simp only[GO] at z Q T W;have X:=Fp List.length y;simp only[Bv,GO] at X;have Y:i64.wrap (a+((U.length:Int)-((u::e).length:Nat)))=(h.length:Nat):=Bx (by simp;omega) (by omega) (by omega);have Z:i64.wrap (b+((U.length:Int)-((u::e).length:Nat)))=((h++u::e++i).length:Nat):=Bx (by simp;omega) (by simp;omega) (by simp;omega);have wc:i64.wrap (((U.length:Int)-((u::e).length:Nat))+1)=(U.length:Int)-(e.length:Nat):=Bx (by simp;omega) (by omega) (by omega);have e1:h++u::e++i++v::g++R=(h++u::e++i)++v::(g++R):=by simp
   have A:h++u::e++i++v::g++R=h++u::(e++i++v::g++R):=by simp
   have e3:h++v::(e++i++v::g++R)=(h++v::e++i)++v::(g++R):=by simp
   simp only;rw[if_pos (by simp;omega),Y,Z,wc,show aC (h++u::e++i++v::g++R) ((h++u::e++i).length:Nat)=some v from by rw[e1];exact dR rfl,xk,
    show aC (h++u::e++i++v::g++R) (h.length:Nat)=some u from by rw[A];exact dR rfl,Option.bind_some,Option.bind_some,A,jD rfl,e3,dR (by simp),Option.bind_some,jD (by simp)]
   refine P _ ⟨h++[v],e,i++[u],g,by simp,by rw[<-y];simp,by omega,by omega,by simp;omega,by simp;omega⟩ (by simp;omega)
theorem Yh{R:Type}{b:(Int×Int->Option R)->Int×Int->Option R}{Q:R->Prop}{a hi N:Nat}(G:Nat->Prop)(h:a<=hi)(v:hi<N)
  (hs:∀f (s r:Nat),a<=s->s<r->r<=hi->(G ((s+r) / 2)->bO (f (((((s+r) / 2:Nat):Int)+1),(r:Int))) Q)->(¬G ((s+r) / 2)->bO (f ((s:Int),(((s+r) / 2:Nat):Int))) Q)->bO (b f ((s:Int),(r:Int))) Q)
  (o:∀f (s:Nat),a<=s->s<=hi->(s=a\/G (s-1))->(s=hi\/¬G s)->bO (b f ((s:Int),(s:Int))) Q):bO (bC b N ((a:Int),(hi:Int))) Q:=by
 refine lpM (I:=λx=>∃s r:Nat,x=((s:Int),(r:Int))/\a<=s/\s<=r/\r<=hi/\(s=a\/G (s-1))/\(r=hi\/¬G r)) (m:=λx=>(x.2-x.1).toNat) (λx f p i=>?_) ⟨a,hi,rfl,by omega,h,by omega,.inl rfl,.inl rfl⟩ (by simp;omega);obtain ⟨s,r,rfl,d,t,e,k,n⟩:=p;rcases Xd t with u | rfl
 ·refine hs f s r d u e (λg=>i _ ⟨(s+r) / 2+1,r,by simp,by omega,by omega,e,.inr (by simpa using g),n⟩ (by simp;omega)) (λg=>i _ ⟨s,(s+r) / 2,rfl,d,by omega,by omega,k,.inr g⟩ (by simp;omega))
 ·exact o f s d e k n
end Go.Plain
end
section
namespace Go.Plain
open Go.Abs
theorem rR{R:Type}{a b:Nat}{o:Option R}(h:a=b):Dt a b o=o:=by subst h;simp[Dt]
theorem rot_ok{N:Nat}{L U V R:List Int}{m i j:Int}(hm:m=L.length+U.length)(hi:i=U.length)(hj:j=V.length)(hU:0<U.length)(hV:0<V.length)(hN:U.length+V.length<N)(hs:(L++U++V++R).length≤1000) :
    bC (fun u (d:Int×Int×List Int)=>
               if (d.1 != d.2.1)=true then
                 if (decide (d.1 > d.2.1))=true then
                   (
                     bC (fun P (k:Int×List Int)=>
                       if (decide (k.1<d.2.1))=true then
                         (aC k.2 (i64.wrap (m+k.1))).bind fun v=>
                         (aC k.2 (i64.wrap ((i64.wrap (m-d.1))+k.1))).bind fun Q=>
                         (aC k.2 (i64.wrap ((i64.wrap (m-d.1))+k.1))).bind fun aa=>
                         (aC (k.2.set (i64.wrap ((i64.wrap (m-d.1))+k.1)).toNat v) (i64.wrap (m+k.1))).bind fun ab=>
                         P ((i64.wrap (k.1+1)),((k.2.set (i64.wrap ((i64.wrap (m-d.1))+k.1)).toNat v).set (i64.wrap (m+k.1)).toNat Q))
                       else
                         some k.2) N (0,d.2.2)).bind fun y=>
                   Dt d.2.2.length y.length <|
                   u ((i64.wrap (d.1-d.2.1)),d.2.1,y)
                 else
                   (
                     bC (fun T (o:Int×List Int)=>
                       if (decide (o.1<d.1))=true then
                         (aC o.2 (i64.wrap ((i64.wrap ((i64.wrap (m+d.2.1))-d.1))+o.1))).bind fun z=>
                         (aC o.2 (i64.wrap ((i64.wrap (m-d.1))+o.1))).bind fun W=>
                         (aC o.2 (i64.wrap ((i64.wrap (m-d.1))+o.1))).bind fun ad=>
                         (aC (o.2.set (i64.wrap ((i64.wrap (m-d.1))+o.1)).toNat z) (i64.wrap ((i64.wrap ((i64.wrap (m+d.2.1))-d.1))+o.1))).bind fun af=>
                         T ((i64.wrap (o.1+1)),((o.2.set (i64.wrap ((i64.wrap (m-d.1))+o.1)).toNat z).set (i64.wrap ((i64.wrap ((i64.wrap (m+d.2.1))-d.1))+o.1)).toNat W))
                       else
                         some o.2) N (0,d.2.2)).bind fun A=>
                   Dt d.2.2.length A.length <|
                   u (d.1,(i64.wrap (d.2.1-d.1)),A)
               else
                 (
                   bC (fun X (p:Int×List Int)=>
                     if (decide (p.1<d.1))=true then
                       (aC p.2 (i64.wrap (m+p.1))).bind fun E=>
                       (aC p.2 (i64.wrap ((i64.wrap (m-d.1))+p.1))).bind fun Y=>
                       (aC p.2 (i64.wrap ((i64.wrap (m-d.1))+p.1))).bind fun ak=>
                       (aC (p.2.set (i64.wrap ((i64.wrap (m-d.1))+p.1)).toNat E) (i64.wrap (m+p.1))).bind fun an=>
                       X ((i64.wrap (p.1+1)),((p.2.set (i64.wrap ((i64.wrap (m-d.1))+p.1)).toNat E).set (i64.wrap (m+p.1)).toNat Y))
                     else
                       some p.2) N (0,d.2.2)).bind fun Z=>
                 some Z) N (i,j,L++U++V++R)=some (L++V++U++R):=by
  apply bO.eq
  simp only [Bv] at hs
  refine lpM (I:=fun x=>∃r h g t,x=((h.length:Int),(g.length:Int),r++h++g++t)/\r++g++h++t=L++V++U++R/\m=r.length+h.length/\0<h.length/\0<g.length/\h.length≤U.length/\g.length≤V.length) (m:=fun x=>(x.1+x.2.1).toNat) (fun x f hI hr=>?_) ⟨L,U,V,R,by rw [hi,hj],rfl,hm,hU,hV,by omega,by omega⟩ (by simp; omega)
  obtain ⟨r,h,g,t,rfl,O,h2,h3,h4,h5,h6⟩:=hI
  have hl:=Fp List.length O
  simp only [Bv] at hl
  have wa:i64.wrap (m-(h.length:Int))=(r.length:Int):=Bx (by omega) (by omega) (by omega)
  simp only [wa]
  by_cases e:h.length=g.length
  · rw [if_neg (by simp [e])]
    have:=Yy (N:=N) (L:=r) (U:=h) (M:=[]) (V:=g) (R:=t) (a:=r.length) (b:=m) (n:=h.length) rfl (by simp; omega) rfl e.symm (by omega) (by simp; omega)
    simp only [FZ] at this
    rw [this,aw,aY,O]
  · rw [if_pos (by simp; omega)]
    by_cases e2:g.length<h.length
    · rw [if_pos (by simp; omega)]
      have G:h=h.take g.length++h.drop g.length:=(Oc _ _).symm
      have:=Yy (N:=N) (L:=r) (U:=h.take g.length) (M:=h.drop g.length) (V:=g) (R:=t) (a:=r.length) (b:=m) (n:=g.length) rfl (by simp; omega) (by simp; omega) (by simp; omega) (by simp; omega) (by simp; omega)
      rw [Ce r (h.take _),←G] at this
      rw [this,aw,rR (by simp; omega),show i64.wrap ((h.length:Int)-g.length)=((h.drop g.length).length:Int) from Bx (by simp; omega) (by omega) (by simp; omega)]
      refine hr _ ⟨r++g,h.drop g.length,h.take g.length,t,by simp; omega,?_,by simp; omega,by simp; omega,by simp; omega,by simp; omega,by simp; omega⟩ (by simp; omega)
      rw [←O]
      conv=>rhs; rw [G]
      simp
    · rw [if_neg (by simp; omega)]
      have K:g=g.take (g.length-h.length)++g.drop (g.length-h.length):=(Oc _ _).symm
      have wb:i64.wrap (m+(g.length:Int))=m+g.length:=Bx rfl (by omega) (by omega)
      have wc:i64.wrap (m+(g.length:Int)-h.length)=m+g.length-h.length:=Bx rfl (by omega) (by omega)
      have:=Yy (N:=N) (L:=r) (U:=h) (M:=g.take (g.length-h.length)) (V:=g.drop (g.length-h.length)) (R:=t) (a:=r.length) (b:=m+g.length-h.length) (n:=h.length) rfl (by simp; omega) rfl (by simp; omega) (by omega) (by simp; omega)
      rw [Ce (r++h) (g.take _),←K] at this
      simp only [wb,wc]
      rw [this,aw,rR (by simp; omega),show i64.wrap ((g.length:Int)-h.length)=((g.take (g.length-h.length)).length:Int) from Bx (by simp; omega) (by omega) (by simp; omega)]
      refine hr _ ⟨r,g.drop (g.length-h.length),g.take (g.length-h.length),h++t,by simp; omega,?_,by simp; omega,by simp; omega,by simp; omega,by simp; omega,by simp; omega⟩ (by simp; omega)
      rw [←O]
      conv=>rhs; rw [K]
      simp
end Go.Plain
end
section
namespace Go.Plain
open Go.Abs
def CY(p:List K3)(u v:Int):Prop:=¬SN (Sd p v) (Sd p u)
def yW(p:List K3)(l:List Int):Prop:=l.Pairwise (CY p)
theorem CY.trans{p:List K3}{a b c:Int}(h:CY p a b)(i:CY p b c):CY p a c:=by unfold CY SN at *;omega
theorem CY.refl{p:List K3}{a:Int}:CY p a a:=by unfold CY SN;omega
theorem SN.le{p:List K3}{a b:Int}(h:SN (Sd p a) (Sd p b)):CY p a b:=by unfold CY SN at *;omega
theorem Sy{p:List K3}{l:List Int}(h:yW p l){i j:Nat}(a:i<=j)(hj:j<l.length):CY p (l.getD i 0) (l.getD j 0):=by
 rcases Xd a with b | rfl
 ·have:=yBg.1 h i j (by omega) hj b;simpa[yAY,hj,show i<l.length by omega] using this
 ·exact .refl
theorem EA{p:List K3}{l:List Int}(h:yW p l){t:Nat}(d:t<=l.length){y:Int}(a:t=0\/CY p (l.getD (t-1) 0) y):∀u∈l.take t,CY p u y:=λu b=>by
 obtain ⟨i,hi,rfl⟩:=jV b;simp only[DB] at hi;rcases a with rfl | a
 ·omega
 ·have:=Sy h (i:=i) (j:=t-1) (by omega) (by omega);rw[RL];have e:l.getD i 0=l[i]'(by omega):=by simp[yAY,show i<l.length by omega]
  rw[<-e];exact this.trans a
theorem FF{p:List K3}{l:List Int}(h:yW p l){t:Nat}{y:Int}(a:l.length<=t\/CY p y (l.getD t 0)):∀u∈l.drop t,CY p y u:=λu b=>by
 obtain ⟨i,hi,rfl⟩:=jV b;simp only[yBY] at hi;rcases a with a | a
 ·omega
 ·have:=Sy h (i:=t) (j:=t+i) (by omega) (by omega);rw[yCl];have e:l.getD (t+i) 0=l[t+i]'(by omega):=by simp[yAY,show t+i<l.length by omega]
  rw[<-e];exact a.trans this
theorem yW.Oq{p:List K3}{l:List Int}(h:yW p l)(t:Nat):yW p (l.take t):=List.Pairwise.sublist (List.take_sublist _ _) h
theorem yW.ND{p:List K3}{l:List Int}(h:yW p l)(t:Nat):yW p (l.drop t):=List.Pairwise.sublist (List.drop_sublist _ _) h
theorem TO{p:List K3}{l:List Int}(h:yW p l){t:Nat}(f:t<=l.length){y:Int}(g:t=0\/CY p (l.getD (t-1) 0) y)(i:l.length<=t\/CY p y (l.getD t 0)):yW p (l.take t++y::l.drop t):=by
 have a:=EA h f g;have b:=FF h i;refine OW.2 ⟨h.Oq t,yBw.2 ⟨b,h.ND t⟩,λu e v d=>?_⟩;rcases gB.1 d with rfl | d
 ·exact a u e
 ·exact (a u e).trans (b v d)
theorem kF{L B R:List Int}{t k:Nat}(hk:k=L.length+t)(a:t<B.length):(L++B++R).getD k 0=B.getD t 0:=by subst hk;simp only[yAY];rw[Ce,Mu (by omega),Gw (by omega),yBH]
theorem Lq{l:List Int}{k:Nat}{i:Int}(h:i=(k:Int))(hk:k<l.length):aC l i=some (l.getD k 0):=by subst h;rw[bX hk];simp[yAY,hk]
theorem DP{p:List K3}{l:List Int}(h:∀x∈l,Tj p x){k:Nat}(hk:k<l.length):Tj p (l.getD k 0):=by
 have:l.getD k 0=l[k]:=by simp[yAY,hk]
 rw[this];exact h _ (bH hk)
theorem F_{X R:Type}{K:X->Option R}{J:(X->Option R)->Option R}{Q:R->Prop}(EY:X->Prop)(a:∀k,(∀x,EY x->bO (k x) Q)->bO (J k) Q)(b:∀x,EY x->bO (K x) Q):bO (jn K J) Q:=a K b
set_option maxHeartbeats 4000000 in
theorem Nx{p:List K3}:∀(N:Nat)(P A B S:List Int)(a m b:Int),A≠[]->B≠[]->(P++A++B++S).length<=1000->(∀x∈P++A++B++S,Tj p x)->A.length+B.length+1100<=N ->
  a=P.length->m=P.length+A.length->b=P.length+A.length+B.length ->
  bO (zbd N (P++A++B++S) a m b p) λr=>∃C,r=P++C++S/\C.Perm (A++B)/\(yW p A->yW p B->yW p C):=by
 intro N;induction N with
 |zero=>intro P A B S a m b _ _ _ _ h;omega
 |succ N ih=>
  intro P A B S a m b hA hB hl M hN ha hm hb;have a1:0<A.length:=Uj.2 hA;have a2:0<B.length:=Uj.2 hB;have ak:=hl;simp only[Bv] at ak;show bO (if (i64.wrap (m-a) == 1)=true then _ else _) _;rw[bx];have w1:i64.wrap (m-a)=A.length:=Bx (by omega) (by omega) (by omega);have w2:i64.wrap (b-m)=B.length:=Bx (by omega) (by omega) (by omega);rw[w1];refine ⟨λU=>?_,λU=>?_⟩
  ·
   obtain ⟨y,rfl⟩:∃y,A=[y]:=by
    match A,U with
    |[y],_=>exact ⟨y,rfl⟩
    |[],U=>simp at U
    |_::_::_,U=>simp at U;omega
   have hy:aC (P++[y]++B++S) a=some y:=by rw[show P++[y]++B++S=P++y::(B++S) by simp];exact dR ha
   have an:Tj p y:=M y (by simp);simp only[GO,yBE] at hm hb ak hN;obtain ⟨z,rfl⟩:∃z:Nat,m=z:=⟨P.length+1,by omega⟩;obtain ⟨Q,rfl⟩:∃Q:Nat,b=Q:=⟨P.length+1+B.length,by omega⟩;refine Yh (λh=>SN (Sd p ((P++[y]++B++S).getD h 0)) (Sd p y)) (by omega) (by omega) (λf s r W X o hg hn=>?_) (λf s W X o E=>?_)
   ·have O:(s+r) / 2<(P++[y]++B++S).length:=by simp;omega
    simp only;rw[if_pos (by simp;omega),mid (by omega),Lq rfl O,aw,hy,aw,Bx (x:=(((s+r) / 2:Nat):Int)+1) rfl (by omega) (by omega)];refine (DL (by omega) (DP M O) an).bind λr T=>?_;rw[bx];exact ⟨λh=>hg (T.1 (by simpa using h)),λh=>hn λg=>h (by simpa using T.2 g)⟩
   ·simp only;rw[if_neg (by simp)];have ht:s-z<=B.length:=by omega
    have ax:B=B.take (s-z)++B.drop (s-z):=(Oc _ _).symm;have e:P++[y]++B++S=P++y::B.take (s-z)++(B.drop (s-z)++S):=by simp only[Ce,Jd,Bu];rw[<-Ce (List.take _ _) (List.drop _ _) S,Oc]
    rw[Bx (x:=(s:Int)-1) (y:=(P.length:Int)+(B.take (s-z)).length) (by simp;omega) (by omega) (by simp;omega)]
    conv in (P++[y]++B++S)=>rw[e]
    rw[up_ok ha rfl (by simp;omega) (by simp;omega),aY];refine ⟨B.take (s-z)++y::B.drop (s-z),by simp,?_,λ_ hb=>TO hb ht ?_ ?_⟩
    ·conv=>rhs;rw[ax]
     exact List.perm_middle
    ·rcases o with o | o
     ·left;omega
     ·by_cases Y:s-z=0
      ·exact .inl Y
      ·right;rw[kF (L:=P++[y]) (B:=B) (R:=S) (t:=s-z-1) (by simp;omega) (by omega)] at o;exact o.le
    ·rcases E with E | E
     ·left;omega
     ·by_cases Y:B.length<=s-z
      ·exact .inl Y
      ·right;rw[kF (L:=P++[y]) (B:=B) (R:=S) (t:=s-z) (by simp;omega) (by omega)] at E;exact E
  ·rw[bx,w2];refine ⟨λh2=>?_,λh2=>?_⟩
   ·
    obtain ⟨y,rfl⟩:∃y,B=[y]:=by
     match B,h2 with
     |[y],_=>exact ⟨y,rfl⟩
     |[],U=>simp at U
     |_::_::_,U=>simp at U;omega
    have hy:aC (P++A++[y]++S) m=some y:=by rw[show P++A++[y]++S=(P++A)++y::S by simp];exact dR (by simp;omega)
    have an:Tj p y:=M y (by simp);simp only[GO,yBE] at hm hb ak hN;obtain ⟨K,rfl⟩:∃K:Nat,a=K:=⟨P.length,by omega⟩;obtain ⟨z,rfl⟩:∃z:Nat,m=z:=⟨P.length+A.length,by omega⟩;refine Yh (λh=>¬SN (Sd p y) (Sd p ((P++A++[y]++S).getD h 0))) (by omega) (by omega) (λf s r W X o hg hn=>?_) (λf s W X o E=>?_)
    ·have O:(s+r) / 2<(P++A++[y]++S).length:=by simp;omega
     simp only;rw[if_pos (by simp;omega),mid (by omega),hy,aw,Lq rfl O,aw,Bx (x:=(((s+r) / 2:Nat):Int)+1) rfl (by omega) (by omega)];refine (DL (by omega) an (DP M O)).bind λr T=>?_;rw[bx];refine ⟨λh=>hg λg=>?_,λh=>hn λg=>?_⟩
     ·have:=T.2 g;simp at h;omega
     ·simp at h;exact g (T.1 h)
    ·simp only;rw[if_neg (by simp)];have ht:s-K<=A.length:=by omega
     have av:A=A.take (s-K)++A.drop (s-K):=(Oc _ _).symm;have e:P++A++[y]++S=(P++A.take (s-K))++A.drop (s-K)++y::S:=by
      conv=>lhs;rw[av]
      simp
     conv in (P++A++[y]++S)=>rw[e]
     rw[dn_ok (by simp;omega) (by simp;omega) (by simp;omega) (by simp;omega),aY];refine ⟨A.take (s-K)++y::A.drop (s-K),by simp,?_,λhb _=>TO hb ht ?_ ?_⟩
     ·conv=>rhs;rw[av]
      simp only[Ce];exact List.Perm.append_left _ (yCj (l₁:=[y]))
     ·rcases o with o | o
      ·left;omega
      ·by_cases Y:s-K=0
       ·exact .inl Y
       ·right;rw[show P++A++[y]++S=P++A++([y]++S) by simp,kF (L:=P) (B:=A) (t:=s-K-1) (by omega) (by omega)] at o;exact o
     ·rcases E with E | E
      ·left;omega
      ·by_cases Y:A.length<=s-K
       ·exact .inl Y
       ·right;rw[show P++A++[y]++S=P++A++([y]++S) by simp,kF (L:=P) (B:=A) (t:=s-K) (by omega) (by omega)] at E;exact (Classical.not_not.1 E).le
   ·
    have av:2<=A.length:=by
     rcases sH A.length 2 with h | h
     ·exact absurd (show ((A.length:Int) == 1)=true by simp;omega) U
     ·exact h
    have ax:2<=B.length:=by
     rcases sH B.length 2 with h | h
     ·exact absurd (show ((B.length:Int) == 1)=true by simp;omega) h2
     ·exact h
    obtain ⟨K,rfl⟩:∃K:Nat,a=K:=⟨P.length,by omega⟩;obtain ⟨z,rfl⟩:∃z:Nat,m=z:=⟨P.length+A.length,by omega⟩;obtain ⟨Q,rfl⟩:∃Q:Nat,b=Q:=⟨P.length+A.length+B.length,by omega⟩;have ab:=mid (i:=K) (j:=Q) (by omega);obtain ⟨G,a0⟩:∃G,G=(K+Q) / 2:=⟨_,rfl⟩;rw[<-a0] at ab;simp only[ab];have wn:i64.wrap ((G:Int)+(z:Int))=((G+z:Nat):Int):=Bx (by simp) (by omega) (by omega);simp only[wn];have a5:(P++A++B++S).length=P.length+A.length+B.length+S.length:=by simp;omega
    refine F_ (λx=>∃lo hi:Nat,x=((lo:Int),(hi:Int))/\lo<=hi/\hi<=G/\hi<=z/\K<=lo/\G+z<=Q+lo/\(lo=K\/G+z=Q+lo)/\(hi=z\/hi=G)) (λk hk=>?_) ?_
    ·rw[bx];refine ⟨λh=>hk _ ⟨G+z-Q,G,?_,?_⟩,λh=>hk _ ⟨K,z,rfl,?_⟩⟩
     ·rw[Bx (x:=((G+z:Nat):Int)-(Q:Int)) (y:=((G+z-Q:Nat):Int)) (by simp at h;omega) (by omega) (by omega)]
     ·simp at h;omega
     ·simp at h;omega
    ·rintro _ ⟨lo,hi,rfl,q1,q2,q3,q4,q5,q6,q7⟩;refine Yh (λc=>¬SN (Sd p ((P++A++B++S).getD (G+z-1-c) 0)) (Sd p ((P++A++B++S).getD c 0))) q1 (by omega) (λf s r W X o hg hn=>?_) (λf s W X o E=>?_)
     ·have O:(s+r) / 2<(P++A++B++S).length:=by omega
      have ad:G+z-1-(s+r) / 2<(P++A++B++S).length:=by omega
      have wp:i64.wrap (((G+z:Nat):Int)-1)=((G+z-1:Nat):Int):=Bx (by omega) (by omega) (by omega);simp only;rw[if_pos (by simp;omega),mid (by omega),wp,Bx (x:=((G+z-1:Nat):Int)-(((s+r) / 2:Nat):Int)) (y:=((G+z-1-(s+r) / 2:Nat):Int)) (by omega) (by omega) (by omega),Lq rfl ad,aw,Lq rfl O,aw,Bx (x:=(((s+r) / 2:Nat):Int)+1) rfl (by omega) (by omega)];refine (DL (by omega) (DP M ad) (DP M O)).bind λr T=>?_;rw[bx];refine ⟨λh=>hg λg=>?_,λh=>hn λg=>?_⟩
      ·have:=T.2 g;simp at h;omega
      ·simp at h;exact g (T.1 h)
     ·simp only;rw[if_neg (by simp)];have we:i64.wrap (((G+z:Nat):Int)-(s:Int))=((G+z-s:Nat):Int):=Bx (by omega) (by omega) (by omega);simp only[we];obtain ⟨d,a6⟩:∃d,d=s-K:=⟨_,rfl⟩;obtain ⟨n,a7⟩:∃n,n=G-s:=⟨_,rfl⟩;have la:d<=A.length:=by omega
      have lb:n<=B.length:=by omega
      have eA:A=A.take d++A.drop d:=(Oc _ _).symm;have eB:B=B.take n++B.drop n:=(Oc _ _).symm;have a8:(A.take d).length=d:=by simp;omega
      have a9:(A.drop d).length=A.length-d:=by simp
      have bb:(B.take n).length=n:=by simp;omega
      have bc:(B.drop n).length=B.length-n:=by simp
      have f1:d=0\/B.length<=n\/CY p (A.getD (d-1) 0) (B.getD n 0):=by
       by_cases Y:d=0
       ·exact .inl Y
       by_cases Z:B.length<=n
       ·exact .inr (.inl Z)
       rcases o with o | o
       ·omega
       rw[kF (L:=P++A) (B:=B) (R:=S) (t:=n) (by simp;omega) (by omega),show P++A++B++S=P++A++(B++S) by simp,kF (L:=P) (B:=A) (t:=d-1) (by omega) (by omega)] at o;exact .inr (.inr o)
      have f2:n=0\/A.length<=d\/CY p (B.getD (n-1) 0) (A.getD d 0):=by
       by_cases Y:n=0
       ·exact .inl Y
       by_cases Z:A.length<=d
       ·exact .inr (.inl Z)
       rcases E with E | E
       ·omega
       rw[kF (L:=P++A) (B:=B) (R:=S) (t:=n-1) (by simp;omega) (by omega),show P++A++B++S=P++A++(B++S) by simp,kF (L:=P) (B:=A) (t:=d) (by omega) (by omega)] at E;exact .inr (.inr (Classical.not_not.1 E).le)
      refine F_ (λx=>x=P++A.take d++B.take n++A.drop d++B.drop n++S) (λk hk=>?_) ?_
      ·rw[bx];refine ⟨λh=>?_,λh=>hk _ ?_⟩
       ·simp only[bK,bB] at h;have e:P++A++B++S=(P++A.take d)++A.drop d++B.take n++(B.drop n++S):=by
         simp only[Ce];rw[<-Ce (B.take n) (B.drop n) S,Oc,<-Ce (A.take d) (A.drop d),Oc]
        conv in (P++A++B++S)=>rw[e]
        rw[rot_ok (by simp;omega) (by rw[Bx rfl (by omega) (by omega)];omega) (by rw[Bx rfl (by omega) (by omega)];omega) (by omega) (by omega) (by omega) (by simp;omega),xk,rR (by rw[e];simp;omega)];exact hk _ (by simp)
       ·simp only[bK,bB,yBS] at h;rcases h with h | h
        ·have:A.drop d=[]:=by rw[<-yBc];omega
         have e2:A.take d=A:=by rw[this] at eA;simpa using eA.symm
         rw[this,e2]
         conv=>lhs;rw[eB]
         simp
        ·have:B.take n=[]:=by rw[<-yBc];omega
         have e2:B.drop n=B:=by rw[this] at eB;simpa using eB.symm
         rw[this,e2]
         conv=>lhs;rw[eA]
         simp
      ·rintro _ rfl;refine F_ (λx=>∃C1,x=P++C1++A.drop d++B.drop n++S/\C1.Perm (A.take d++B.take n)/\(yW p (A.take d)->yW p (B.take n)->yW p C1)) (λk hk=>?_) ?_
       ·rw[bx];refine ⟨λh=>?_,λh=>hk _ ⟨A.take d++B.take n,by simp,.refl _,λZ h4=>?_⟩⟩
        ·simp only[bK,bB] at h;have e:P++A.take d++B.take n++A.drop d++B.drop n++S=P++A.take d++B.take n++(A.drop d++B.drop n++S):=by simp
         have r:=ih P (A.take d) (B.take n) (A.drop d++B.drop n++S) K s G (by rw[<-Uj];omega) (by rw[<-Uj];omega) (by rw[<-e];simp;omega) (λx hx=>M x (by
          rw[<-e] at hx;simp only[mC] at hx ⊢;rcases hx with ((((h | h) | h) | h) | h) | h
          ·exact .inl (.inl (.inl h))
          ·exact .inl (.inl (.inr (O_ h)))
          ·exact .inl (.inr (O_ h))
          ·exact .inl (.inl (.inr (yBp h)))
          ·exact .inl (.inr (yBp h))
          ·exact .inr h)) (by omega) ha (by omega) (by omega)
         rw[<-e] at r;refine r.bind λr T=>?_;obtain ⟨C,rfl,Z,h4⟩:=T;have h5:=Z.length_eq;simp only[Bv] at h5;rw[rR (by simp;omega)];exact hk _ ⟨C,by simp,Z,h4⟩
        ·simp only[bK,bB,yBS] at h;rcases h with h | h
         ·have:A.take d=[]:=by rw[<-yBc];omega
          rw[this];exact h4
         ·have:B.take n=[]:=by rw[<-yBc];omega
          rw[this,FZ];exact Z
       ·rintro _ ⟨C1,rfl,g1,g2⟩;have lC:=g1.length_eq;simp only[Bv] at lC;have aa:∀C2:List Int,C2.Perm (A.drop d++B.drop n)->yW p A->yW p B->∀u∈C1,∀v∈C2,CY p u v:=λC2 g3 sA sB u hu v M=>by
         have hu:=mC.1 (g1.mem_iff.1 hu);have M:=mC.1 (g3.mem_iff.1 M);rcases hu with hu | hu <;> rcases M with M | M
         ·have:=OW.1 (eA▸sA:yW p (A.take d++A.drop d));exact this.2.2 u hu v M
         ·rcases f1 with f1 | f1 | f1
          ·subst f1;simp at hu
          ·rw[yB8 f1] at M;simp at M
          ·exact FF sB (.inr (EA sA la (.inr f1) u hu)) v M
         ·rcases f2 with f2 | f2 | f2
          ·rw[f2] at hu;simp at hu
          ·rw[yB8 f2] at M;simp at M
          ·exact FF sA (.inr (EA sB lb (.inr f2) u hu)) v M
         ·have:=OW.1 (eB▸sB:yW p (B.take n++B.drop n));exact this.2.2 u hu v M
        have af:∀C2:List Int,C2.Perm (A.drop d++B.drop n)->(C1++C2).Perm (A++B):=λC2 g3=>by
         refine (List.Perm.append g1 g3).trans ?_
         conv=>rhs;rw[eA,eB]
         simp only[Ce];refine List.Perm.append_left _ ?_;rw[<-Ce,<-Ce (A.drop d)];exact List.Perm.append_right _ yCj
        rw[bx];refine ⟨λh=>?_,λh=>aY.2 ⟨C1++(A.drop d++B.drop n),by simp,af _ (.refl _),λsA sB=>?_⟩⟩
        ·simp only[bK,bB] at h;have e:P++C1++A.drop d++B.drop n++S=(P++C1)++A.drop d++B.drop n++S:=rfl;have r:=ih (P++C1) (A.drop d) (B.drop n) S G ((G+z-s:Nat):Int) Q (by rw[<-Uj];omega) (by rw[<-Uj];omega) (by simp;omega) (λx hx=>M x (by
          simp only[mC] at hx ⊢;rcases hx with (((h | h) | h) | h) | h
          ·exact .inl (.inl (.inl h))
          ·rcases mC.1 (g1.mem_iff.1 h) with h | h
           ·exact .inl (.inl (.inr (O_ h)))
           ·exact .inl (.inr (O_ h))
          ·exact .inl (.inl (.inr (yBp h)))
          ·exact .inl (.inr (yBp h))
          ·exact .inr h)) (by omega) (by simp;omega) (by simp;omega) (by simp;omega)
         refine r.bind λr T=>?_;obtain ⟨C2,rfl,Z,h4⟩:=T;refine aY.2 ⟨C1++C2,by simp,af _ Z,λsA sB=>?_⟩;exact OW.2 ⟨g2 (sA.Oq _) (sB.Oq _),h4 (sA.ND _) (sB.ND _),aa _ Z sA sB⟩
        ·refine OW.2 ⟨g2 (sA.Oq _) (sB.Oq _),?_,aa _ (.refl _) sA sB⟩;simp only[bK,bB,yBS] at h;rcases h with h | h
         ·have:A.drop d=[]:=by rw[<-yBc];omega
          rw[this];exact sB.ND _
         ·have:B.drop n=[]:=by rw[<-yBc];omega
          rw[this,FZ];exact sA.ND _
end Go.Plain
end
section
namespace Go.Plain
open Go.Abs
theorem rF{X R:Type}{b:(X->Option R)->X->Option R}{Q:R->Prop}{n:Nat}{x:X}(hn:0<n)(h:∀f,f=bC b (n-1)->bO (b f x) Q):bO (bC b n x) Q:=by obtain ⟨k,rfl⟩:∃k,n=k+1:=⟨n-1,by omega⟩;exact h _ rfl
theorem Qz{p:List K3}{N:Nat}{P A S:List Int}{a E:Int}(ha:a=P.length)(hE:E=P.length+A.length)(hN:1100<=N)(hl:(P++A++S).length<=1000)(O:∀x∈P++A++S,Tj p x) :
  bO (bC (λf8 (Q : Int × List Int)=>
         if (decide (Q.1<E))=true then
          bC (λad (d:Int×List Int)=>
           jn (λ(af:Bool)=>
            if af=true then
             (aC d.2 (i64.wrap (d.1-1))).bind λR=>
             (aC d.2 d.1).bind λak=>
             (aC d.2 d.1).bind λa6=>
             (aC (d.2.set d.1.toNat R) (i64.wrap (d.1-1))).bind λa7=>
             ad ((i64.wrap (d.1-1)),((d.2.set d.1.toNat R).set (i64.wrap (d.1-1)).toNat ak))
            else
             f8 ((i64.wrap (Q.1+1)),d.2)) λW=>
           if (decide (d.1 > a))=true then
           (aC d.2 d.1).bind λan=>
           (aC d.2 (i64.wrap (d.1-1))).bind λav=>
           (
            (aC p an).bind λt=>
            (aC p av).bind λG=>
            (zaC N ([t.1,t.2.1,t.2.2]:List Int) ([G.1,G.2.1,G.2.2]:List Int)).bind λax=>
            some ax).bind λa0=>
           W (decide (a0<0))
           else
           W false) N (Q.1,Q.2)
         else
          some Q.2) N ((i64.wrap (a+1)),P++A++S)) λr=>∃C,r=P++C++S/\C.Perm A/\yW p C:=by
 have a1:=hl;simp only[Bv] at a1;rw[Bx (x:=a+1) (y:=a+1) rfl (by omega) (by omega)];refine lpM (I:=λx=>∃C T,x.2=P++C++T++S/\(C++T).Perm A/\yW p C/\x.1=a+(if A=[] then 1 else (C.length:Int))/\(A≠[]->0<C.length)) (m:=λx=>(E+1-x.1).toNat) (λx f hI hr=>?_) ?_ (by simp;omega)
 ·obtain ⟨i,row⟩:=x;obtain ⟨C,T,rfl,hp,hs,hi,h0⟩:=hI;simp only at hi hr ⊢;have n:=hp.length_eq;simp only[Bv] at n;by_cases hA:A=[]
  ·subst hA;simp only[if_true,yBE] at hi n hE;rw[if_neg (by simp;omega),aY];have hC:C=[]:=by rw[<-yBc];omega
   have hT:T=[]:=by rw[<-yBc];omega
   subst hC hT;exact ⟨[],by simp,.refl _,hs⟩
  ·rw[if_neg hA] at hi;have a8:=h0 hA;cases T with
   |nil=>simp only[yBE] at n;rw[if_neg (by simp;omega),aY];exact ⟨C,by simp,by simpa using hp,hs⟩
   |cons y T=>
    simp only[GO] at n;rw[if_pos (by simp;omega)];refine lpM (I:=λz=>∃U V,z=(a+(U.length:Int),P++U++y::(V++T++S))/\U++V=C/\∀v∈V,CY p y v) (m:=λz=>(z.1-a).toNat) (λz g hz a2=>?_) ⟨C,[],by rw[hi];simp,by simp,by simp⟩ (by simp;omega);obtain ⟨U,V,rfl,e,X⟩:=hz;have K:=Fp List.length e;simp only[Bv] at K;have M:∀x∈P++U++y::(V++T++S),Tj p x:=λx Y=>O x (by
     simp only[mC,gB] at Y ⊢;have o:x∈U\/x∈V\/x=y\/x∈T->x∈A:=λh=>hp.mem_iff.1 (by
      rw[<-e];simp only[mC,gB];rcases h with h | h | h | h
      ·exact .inl (.inl h)
      ·exact .inl (.inr h)
      ·exact .inr (.inl h)
      ·exact .inr (.inr h))
     rcases Y with (h | h) | h | (h | h) | h
     ·exact .inl (.inl h)
     ·exact .inl (.inr (o (.inl h)))
     ·exact .inl (.inr (o (.inr (.inr (.inl h)))))
     ·exact .inl (.inr (o (.inr (.inl h))))
     ·exact .inl (.inr (o (.inr (.inr (.inr h)))))
     ·exact .inr h)
    have done:(∀u∈U,CY p u y)->bO (f (i64.wrap (i+1),P++U++y::(V++T++S))) (λr=>∃C,r=P++C++S/\C.Perm A/\yW p C):=λhu=>by
     rw[Bx (x:=i+1) rfl (by omega) (by omega)];refine hr _ ⟨U++y::V,T,by simp,?_,?_,?_,λ_=>by simp;omega⟩ (by simp;omega)
     ·refine List.Perm.trans ?_ hp;rw[<-e];have:(U++y::V).Perm (U++V++[y]):=by
       rw[Ce];exact List.Perm.append_left _ (yCj (l₁:=[y]))
      have:=this.append_right T;simpa using this
     ·have Z:=OW.1 (e▸hs:yW p (U++V));refine OW.2 ⟨Z.1,yBw.2 ⟨X,Z.2.1⟩,λu h v O=>?_⟩;rcases gB.1 O with rfl | O
      ·exact hu u h
      ·exact Z.2.2 u h v O
     ·rw[if_neg hA];simp;omega
    refine F_ (λx=>(x=true->∃b v,U=b++[v]/\CY p y v)/\(x=false->∀u∈U,CY p u y)) (λk hk=>?_) (λx Y=>?_)
    ·rw[bx];refine ⟨λh=>?_,λh=>hk _ ⟨by simp,λ_ u hu=>?_⟩⟩
     ·simp at h;rcases List.eq_nil_or_concat U with rfl | ⟨b,v,rfl⟩
      ·simp at h
      simp only[yCi] at M hk h ⊢;simp only[yCi,Bv,GO,yBE] at K;have w:i64.wrap (a+((b++[v]).length:Nat)-1)=((P++b).length:Nat):=Bx (by simp;omega) (by simp;omega) (by simp;omega);have e1:P++(b++[v])++y::(V++T++S)=(P++b)++v::(y::(V++T++S)):=by simp
      rw[w,dR (by simp;omega),aw,show aC (P++(b++[v])++y::(V++T++S)) ((P++b).length:Nat)=some v from by rw[e1];exact dR rfl,xk];refine (DL (by omega) (M y (by simp)) (M v (by simp))).bind λr aa=>hk _ ⟨λh=>⟨b,v,rfl,(aa.1 (by simpa using h)).le⟩,λh u hu=>?_⟩;have ab:CY p v y:=λg=>by have:=aa.2 g;simp at h;omega
      simp only[yCi] at e;have Z:=OW.1 (e▸hs:yW p ((b++[v])++V));have h2:=OW.1 Z.1;rcases mC.1 hu with hu | hu
      ·exact (h2.2.2 u hu v (by simp)).trans ab
      ·simp at hu;subst hu;exact ab
     ·simp at h;have:U=[]:=by rw[<-yBc];omega
      subst this;simp at hu
    ·rw[bx];refine ⟨λh=>?_,λh=>done (Y.2 (by simpa using h))⟩;obtain ⟨b,v,rfl,a5⟩:=Y.1 h;simp only[Bv,GO,yBE] at K;have w:i64.wrap (a+((b++[v]).length:Nat)-1)=((P++b).length:Nat):=Bx (by simp;omega) (by simp;omega) (by simp;omega);have e1:P++(b++[v])++y::(V++T++S)=(P++b)++v::(y::(V++T++S)):=by simp
     have e3:P++(b++[v])++v::(V++T++S)=(P++b)++v::(v::(V++T++S)):=by simp
     simp only;rw[w,show aC (P++(b++[v])++y::(V++T++S)) ((P++b).length:Nat)=some v from by rw[e1];exact dR rfl,xk,dR (by simp;omega),xk,xk,jD (by simp;omega),e3,dR (by simp),xk,jD (by simp)];refine a2 _ ⟨b,v::V,by simp;omega,by rw[<-e];simp,λu hu=>?_⟩ (by simp;omega);rcases gB.1 hu with rfl | hu
     ·exact a5
     ·exact X u hu
 ·refine ⟨A.take 1,A.drop 1,by simp only[Ce];rw[<-Ce (A.take 1),Oc],by rw[Oc],?_,?_,?_⟩
  ·cases A with
   |nil=>exact .nil
   |cons=>simp[yW]
  ·cases A <;> simp
  ·intro (h:A≠[]);have:=Uj.2 h;simp;omega
def Uk(n:Nat):List Int:=(List.range n).map λ(i:Nat)=>(i:Int)
theorem rL(n:Nat):(Uk n).length=n:=by simp[Uk]
theorem upn_get{n i:Nat}(h:i<n):(Uk n)[i]'(by rw[rL];exact h)=(i:Int):=by simp[Uk]
theorem SP{p:List K3}{x:Int}(h:x∈Uk p.length):Tj p x:=by simp only[Uk,iS,yCa] at h;obtain ⟨i,hi,rfl⟩:=h;exact ⟨by omega,by omega⟩
theorem Tg{α:Type}{z:α}{n:Nat}(h:n<=1000):Gv z (n:Int) (n:Int)=some (List.replicate n z):=by unfold Gv;simp;omega
theorem Ra{N:Nat}{p:List K3}(hp:p.length<40)(hN:2000<=N):bO (ze7 N p) λr=>r.Perm (Uk p.length)/\yW p r:=by
 unfold ze7;rw[Tg (by omega),aw];refine jm p.length (λi x=>x=((i:Int),(Uk p.length).take i++List.replicate (p.length-i) 0)) (λi x f hi n b=>?_) (λx f n=>?_) (by simp) (by omega)
 ·subst n;have hl:((Uk p.length).take i).length=i:=by simp[rL];omega
  have e:List.replicate (p.length-i) (0:Int)=0::List.replicate (p.length-(i+1)) 0:=by rw[show p.length-i=(p.length-(i+1))+1 by omega,List.replicate_succ]
  simp only;rw[if_pos (by simp;omega),e,dR (by rw[hl]),xk,jD (by rw[hl]),bT (by omega)];refine b _ (by rw[List.take_add_one,eI (by rw[rL];exact hi),upn_get hi];simp)
 ·subst n;rw[yBN (by rw[rL];exact cM _),yC3,List.replicate_zero,FZ];simp only;rw[if_neg (by simp),rL];generalize n:Uk p.length=x;have z:x.length=p.length:=by rw[<-n,rL]
  have d:∀a∈x,Tj p a:=λa g=>SP (by rw[n];exact g)
  suffices key:∀o:Option (List Int),(bO o λr=>r.Perm x/\yW p r)->bO ((o.bind λK=>some K).bind λu=>Dt p.length u.length<|some u) λr=>r.Perm x/\yW p r by
   refine key _ ?_;have M:i64.wrap (20+20)=40:=rfl;have O:i64.wrap (2 * 20)=40:=rfl;have Q:i64.wrap (20 * 2)=40:=rfl;have R:i64.wrap (0+20)=20:=rfl;by_cases aa:p.length<20
   ·refine rF (by omega) λf y=>?_;simp only;rw[if_neg (by simp;omega)];have X:=Qz (p:=p) (N:=N) (P:=[]) (A:=x) (S:=[]) (a:=0) (E:=p.length) rfl (by simp;omega) (by omega) (by simp;omega) (by simpa using d);rw[Bu,FZ] at X;refine X.bind λr b=>?_;obtain ⟨C,rfl,h,t⟩:=b;rw[rR (by simpa using h.length_eq.symm)];refine rF (by omega) λf y=>?_;rw[if_neg (by simp;omega),aY];exact ⟨by simpa using h,by simpa using t⟩
   ·refine rF (by omega) λf y=>?_;simp only;have v:x=x.take 20++x.drop 20:=(Oc _ _).symm;have Y:(x.take 20).length=20:=by simp;omega
    have Z:(x.drop 20).length=p.length-20:=by simp;omega
    rw[if_pos (by simp;omega)];have r1:=Qz (p:=p) (N:=N) (P:=[]) (A:=x.take 20) (S:=x.drop 20) (a:=0) (E:=20) rfl (by rw[Y];simp) (by omega) (by simp;omega) (by simpa using d);rw[Bu,<-v] at r1;refine r1.bind λr b=>?_;obtain ⟨C,rfl,h,t⟩:=b;have T:C.length=20:=by rw[h.length_eq,Y]
    rw[Bu,rR (by simp;omega),M,y];refine rF (by omega) λf y=>?_;simp only;rw[if_neg (by simp;omega)];have U:∀a∈C++x.drop 20,Tj p a:=λa g=>d a (by
     rcases mC.1 g with g | g
     ·exact O_ (h.mem_iff.1 g)
     ·exact yBp g)
    have r2:=Qz (p:=p) (N:=N) (P:=C) (A:=x.drop 20) (S:=[]) (a:=20) (E:=p.length) (by rw[T];rfl) (by rw[T,Z];omega) (by omega) (by simp;omega) (by simpa using U);rw[FZ] at r2;refine r2.bind λr b=>?_;obtain ⟨D,rfl,h3,h4⟩:=b;have lD:D.length=p.length-20:=by rw[h3.length_eq,Z]
    have m:(C++D).Perm x:=by rw[v];exact List.Perm.append h h3
    rw[FZ,rR (by simp;omega)];refine rF (by omega) λf2 W=>?_;simp only;by_cases ab:p.length=20
    ·rw[if_neg (by simp;omega),aY];have:D=[]:=by rw[<-yBc];omega
     subst this;exact ⟨m,by simpa using t⟩
    ·rw[if_pos (by simp;omega),O];refine rF (by omega) λf3 ad=>?_;simp only;rw[if_neg (by simp;omega),R];refine F_ (λr=>r.Perm x/\yW p r) (λk hk=>?_) (λr b=>?_)
     ·rw[if_pos (by simp;omega)];have r3:=Nx (p:=p) N [] C D [] 0 20 p.length (by rw[<-Uj];omega) (by rw[<-Uj];omega) (by simp;omega) (λa g=>d a (m.mem_iff.1 (by simpa using g))) (by omega) rfl (by rw[T];rfl) (by simp;omega);rw[Bu,FZ] at r3;refine r3.bind λr b=>?_;obtain ⟨G,rfl,h5,h6⟩:=b;have lG:=h5.length_eq;rw[rR (by simp at lG ⊢;omega)];exact hk _ ⟨by simpa using h5.trans m,by simpa using h6 t h4⟩
     ·rw[Q,W];refine rF (by omega) λf4 af=>?_;simp only;rw[if_neg (by simp;omega),aY];exact b
  intro o ⟨r,ho,h,t⟩;rw[ho,aw,aw,rR (by rw[h.length_eq,z])];exact aY.2 ⟨h,t⟩
end Go.Plain
end
section
namespace Go.Plain
open Go.Abs
theorem DO{s:a_}(hs:lz s)(k:bo s):QN 5000 s=some true:=by
 obtain ⟨r,e,h⟩:=sm s hs
 simp_all
theorem IY(x a b:Int):∃v,zcs 5000 x a b=some v:=by
 unfold zcs;split
 ·simp_all
 ·split <;> exact ⟨_,rfl⟩
theorem MO(x:Int):∃v,ic 5000 x=some v:=by
 obtain ⟨r,e⟩:=IY x 0 1099511627776;unfold ic Mj
 simp_all
theorem Wd{s:a_}(hs:lz s)(k:bo s)(j:aJ)(d:Int)(use:List Int):∃v,Ea 5000 s j d use=some v:=by
 have g:∃v,Ap 5000 d j.cQ=some v:=by unfold Ap;split <;> exact ⟨_,rfl⟩
 obtain ⟨ag,o⟩:=g;obtain ⟨i,p⟩:=IY j.aM 0 64;unfold Ea zD;rw[DO hs k,aw,if_neg (by simp)];simp only[dV,o,p,aw];have m:∀q:Int,∃v:Int×Int×Int×Int,(if ((decide (j.ca≥0))&&(decide (j.ca<(use.length:Int))))=true then
    (aC use j.ca).bind λr=>(ic 5000 r).bind λt=>some ((i64.wrap (s.aq.mG * ag)),(i64.wrap (s.aq.de * i)),(i64.wrap (s.aq.f_ * q)),(i64.wrap (s.aq.bW * t)))
   else some ((i64.wrap (s.aq.mG * ag)),(i64.wrap (s.aq.de * i)),(i64.wrap (s.aq.f_ * q)),(i64.wrap (s.aq.bW * 0))))=some v:=λq=>by
  by_cases n:((decide (j.ca≥0))&&(decide (j.ca<(use.length:Int))))=true
  ·have a:=n;simp only[bK,bB] at a;obtain ⟨h,e⟩:=EL (l:=use) a.1 a.2;obtain ⟨f,u⟩:=MO (use[j.ca.toNat]'h)
   simp_all
  ·rw[if_neg n];simp_all
 by_cases hq:((decide (j.Queue≥0))&&(decide (j.Queue<(s.am.length:Int))))=true
 ·have b:=hq;simp only[bK,bB] at b;obtain ⟨h,e⟩:=EL (l:=s.am) b.1 b.2;rw[if_pos hq,e,aw];obtain ⟨v,ev⟩:=m (s.am[j.Queue.toNat]'h).f_
  simp_all
 ·rw[if_neg hq];obtain ⟨v,ev⟩:=m 0
  simp_all
def Uv(s:a_)(n:kj)(j:aJ):K3:=(qu 5000 s j n).getD (0,0,0)
theorem keyP_ok{s:a_}(hs:lz s)(k:bo s)(n:kj)(j:aJ):qu 5000 s j n=some (Uv s n j):=by
 have:∃v,qu 5000 s j n=some v:=by
  obtain ⟨v,e⟩:=Wd hs k j n.aQ n.gz;unfold qu
  simp_all
 grind [Uv]
theorem VJ{s:a_}(hs:lz s)(k:bo s)(n:kj){L:List aJ}(hL:∀j∈L,fy j)(hl:L.length<40) :
  bO (ze8 5000 L s n) λr=>r.Perm L:=by
 unfold ze8;rw[DO hs k,aw,if_neg (by simp),Tg (by omega),aw];refine jm L.length (λi x=>x=((i:Int),(L.map (Uv s n)).take i++List.replicate (L.length-i) (0,0,0))) (λi x f hi a b=>?_) (λx f a=>?_) (by simp) (by omega)
 ·subst a;have hl:((L.map (Uv s n)).take i).length=i:=by grind
  have e:List.replicate (L.length-i) ((0,0,0):K3)=(0,0,0)::List.replicate (L.length-(i+1)) (0,0,0):=by rw[show L.length-i=(L.length-(i+1))+1 by omega,List.replicate_succ]
  simp only;rw[if_pos (cK hi),bX hi,aw,keyP_ok hs k,aw,e,dR (by rw[hl]),xk,jD (by rw[hl]),bT (by omega)]
  grind [List.take_add_one]
 ·subst a;rw[yBN (by simp),yC3,List.replicate_zero,FZ];simp only;have z:∀x:aJ,Gv x 0 (L.length:Int)=some []:=λx=>by
   unfold Gv
   grind
  rw[if_neg (by simp),z,aw];refine (Ra (N:=5000) (p:=L.map (Uv s n)) (by simp_all) (by omega)).bind λr b=>?_;obtain ⟨hp,hw⟩:=b;rw[yt] at hp;have g:r.length=L.length:=by rw[hp.length_eq,rL]
  have h:∀x∈r,0<=x/\x<L.length:=λx a=>by
   have:=SP (p:=L.map (Uv s n)) (x:=x) (by grind)
   grind [Tj]
  let J:Int->aJ:=λx=>L.getD x.toNat { Id:=0,ca:=0,Queue:=0,aM:=0,ay:=({ bF:=0,Mem:=0,bJ:=0,bL:=0 }:aE),aR:=0,aF:=[],State:=0,Ok:=false,cL:=false,aK:=0,cQ:=0,Start:=0,End:=0,Array:=0 }
  have m:∀x∈r,aC L x=some (J x):=λx a=>by grind [EL]
  refine jm r.length (λi x=>x=((i:Int),(r.map J).take i)) (λi x f hi a b=>?_) (λx f a=>?_) (by simp) (by omega)
  ·subst a;have o:fy (J r[i]):=by
    grind [EL]
   simp only;rw[if_pos (cK hi),bX hi,aw,m _ (bH hi),aw];have t:zaG 5000 (J r[i]).aF=some (J r[i]).aF:=yI (by grind [fy.kR]);rw[t,aw,Cj (by grind),aw,bT (by omega)];refine b _ (by rw[List.take_add_one,eI (by grind)];simp)
  ·subst a;simp only;rw[if_neg (by simp),aY,yBN (by simp)];have d:(Uk L.length).map J=L:=by
    apply yCq
    ·simp[Uk]
    grind [Uk]
   grind
section
variable{l:List aJ}(hl:l.length<=300)(hs:bS l)
def VH(l:List aJ)(d:Gt):Prop:=∃j∈l,j.Id=d.aS/\(j.State=5\/j.State=6)/\(d.Ok=true->j.State=5/\j.Ok=true)
include hl in
theorem ZE(id:Int):bO (wT 5000 id l) λr=>(r.2=false/\∀j∈l,j.Id≠id)\/∃(i:Nat)(h:i<l.length),l[i].Id=id/\r=(l[i],true):=by
 unfold wT;refine vo l (λ_ j=>j.Id≠id) (λi f h _ a=>?_) (λf h=>?_) (by omega)
 ·simp only[cK h,if_true,bX h,aw,bT (show i<1000000 by omega),bx,aY,mV]
  grind
 ·simp only[ed,bU,cu,aY];exact .inl ⟨trivial,DZ (A:=λ(j:aJ)=>j.Id≠id) h⟩
include hl hs in
theorem Oj{d:Gt}{i:Nat}(hi:i<l.length)(e:l[i].Id=d.aS):VH l d↔(l[i].State=5\/l[i].State=6)/\(d.Ok=true->l[i].State=5/\l[i].Ok=true):=by
 constructor
 ·rintro ⟨j,hj,h1,h2,h3⟩;obtain ⟨t,a,rfl⟩:=jV hj;have:=hs.inj a hi (h1.trans e.symm)
  simp_all
 ·rintro ⟨h2,h3⟩;exact ⟨l[i],bH hi,e,h2,h3⟩
include hl hs in
theorem ZA{j:aJ}(m:j.aF.length<=10):fD (mW 5000 j l) (∀d∈j.aF,VH l d):=by
 unfold mW;refine ON j.aF (VH l) _ (λh=>h) (λi f hi Q n b=>?_) (λf h=>?_) (by omega)
 ·rw[if_pos (cK hi),bX hi,aw];refine (ZE hl _).bind λr a=>?_;rw[dV];rcases a with ⟨a,hn⟩ | ⟨t,g,e,rfl⟩
  ·rw[if_pos (by simp[a])];show bO (if true=true then _ else _) _;rw[if_pos rfl,aY];exact b λ⟨j,hj,e,_⟩=>hn j hj e
  ·have k:=Oj hl hs g e;unfold Gc Wn;simp only[aw];rw[if_neg (by simp),bT (show i<1000000 by omega)]
   grind [aY]
 ·simp only[ed,bU,cu];exact qR h
def Ag(l:List aJ)(j:aJ):Bool:=(j.State == 1)&&(mW 5000 j l).getD false
theorem YN{T:Type}(st:T->Int)(met:T->Option Bool):∀l:List T,(∀a∈l,∃b,met a=some b)->FC st met l=some (l.filter λa=>(st a == 1)&&(met a).getD false)
 |[],_=>rfl
 |a :: l, h => by
  have ih:=YN st met l λx d=>h x (pN _ d);obtain ⟨b,e⟩:=h a (tD ..);unfold FC
  grind
include hl hs in
theorem SI(d:∀j∈l,j.aF.length<=10):fo 5000 l=some (l.filter (Ag l)):=by unfold fo ZD;rw[show Nat.ble l.length 1000000=true from Nat.ble_eq▸(by omega)];exact YN _ _ l λa h=>by obtain ⟨b,e,_⟩:=ZA hl hs (d a h);simp_all
end
theorem R_{R:Type}{K:List aJ->Option R}:∀(r b:List aJ),b.length+r.length<=1000 ->
  lpR (λ(d:aJ) (e:List aJ) f=>
  (bP e ([d]:List aJ)).bind λg=>
  f g) K r b=K (b++r)
 |[],b,_=>by simp[lpR]
 |a :: r, b, h => by simp only[GO] at h;unfold lpR;rw[Cj (by grind),aw,R_ r _ (by grind)];simp
theorem zR{R:Type}{b:(Int×Int->Option R)->Int×Int->Option R}{Q:R->Prop}{l:List aJ}(hl:l.length<=300)(P:aJ->Bool)
  (hs:∀f (c i:Nat) (h:i<l.length),c<=i->bO (f (((if P l[i] then c+1 else c:Nat):Int),((i+1:Nat):Int))) Q->bO (b f ((c:Int),(i:Int))) Q)
  (e:∀f,bO (b f ((l.countP P:Int),(l.length:Int))) Q):bO (bC b 5000 (0,0)) Q:=by
 refine jm l.length (λi x=>x=(((l.take i).countP P:Int),(i:Int))) (λi x f hi a d=>?_) (λx f a=>?_) (by simp) (by omega)
 ·subst a;refine hs f _ i hi (kL List.countP_le_length (by grind)) (d _ ?_)
  grind [List.take_add_one]
 simp_all
def hasB(x:Int):Bool:=(x == 3) || (x == 4)
theorem IR{l:List aJ}(hl:l.length<=300)(q:Int):lF 5000 l q=some (l.countP λj=>(j.Queue == q)&&hasB j.State:Int):=by
 unfold lF;apply bO.eq;rw[jO];refine zR hl (λj=>(j.Queue == q)&&hasB j.State) (λf c i hi b a=>?_) (λf=>?_)
 ·simp only[dV];rw[if_pos (cK hi),bX hi,aw,bT (show i<1000000 by omega),bT (show c<1000000 by omega)];unfold ee;by_cases h:(l[i].Queue == q)=true
  ·rw[if_pos h,aw,aw];simp only[h,yBX] at a;show bO (if hasB l[i].State=true then _ else _) _
   grind
  simp_all
 ·simp only;rw[if_neg (by simp),aY,aY]
theorem of_eq{l:List aJ}(hl:l.length<=300)(q u:Int):AQ 5000 l q u=some (l.countP λj=>((j.Queue == q)&&(j.ca == u))&&hasB j.State:Int):=by
 unfold AQ;apply bO.eq;rw[jO];refine zR hl (λj=>((j.Queue == q)&&(j.ca == u))&&hasB j.State) (λf c i hi b a=>?_) (λf=>?_)
 ·simp only[dV];rw[if_pos (cK hi),bX hi,aw,bT (show i<1000000 by omega),bT (show c<1000000 by omega)];unfold ee;by_cases h:((l[i].Queue == q)&&(l[i].ca == u))=true
  ·rw[if_pos h,aw,aw];simp only[h,yBX] at a;show bO (if hasB l[i].State=true then _ else _) _
   grind
  grind
 ·simp only;rw[if_neg (by simp),aY,aY]
theorem GL{s:a_}(hs:lz s)(k:bo s){l:List aJ}(hl:l.length<=300)(j:aJ):∃b,eJ 5000 s l j=some b:=by
 unfold eJ oK;by_cases hq:0<=j.Queue/\j.Queue<s.am.length
 ·obtain ⟨a,e⟩:=EL (l:=s.am) hq.1 hq.2;rw[if_pos (by simp_all),DO hs k,aw,aw,if_neg (by simp),e,aw,IR hl,aw,of_eq hl,aw];split <;> exact ⟨_,rfl⟩
 ·rw[if_neg (by simp_all),aw,if_pos (by simp)]
  simp_all
end Go.Plain
end
