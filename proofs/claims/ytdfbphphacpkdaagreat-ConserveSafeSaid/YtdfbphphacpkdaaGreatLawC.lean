/- TyL8, TyL9, TySA, TySG, TyLA, TyLD, TyLC, TyR1, TyR2, TyR3, TyR4, TyRP -/
import Derived.Test.YtdfbphphacpkdaaGreatLawB
import Derived.Test.YtdfbphphacpkdaaGreatLawA
set_option linter.all false
open Go.IntKind (i64 u64)
section
namespace Go.Plain
open Go.Abs
theorem t_{zs:List Int}{j:Nat}(h:j<zs.length):zs.toArray[j]! = zs[j]:=by simp_all
theorem MY(zs:List Int)(x:Int):x∈Lib.compact zs↔x∈zs:=by
 unfold Lib.compact Lib.compactUpTo;constructor
 ·grind
 ·intro h;obtain ⟨j,hj,rfl⟩:=ky h;have:∀j (hj:j<zs.length),zs[j]∈((List.range zs.length).filter (Lib.keeps zs.toArray)).map (zs.toArray[·]!):=by
   intro j;induction j with
   |zero=>intro hj;exact iQ.2 ⟨0,Si.2 ⟨yBM.2 hj,by simp[Lib.keeps]⟩,t_ hj⟩
   |succ j ih=>
    intro hj;by_cases e:zs[j+1]=zs[j]
    ·simp_all
    ·refine iQ.2 ⟨j+1,Si.2 ⟨yBM.2 hj,?_⟩,t_ hj⟩;unfold Lib.keeps
     grind
  simp_all
theorem Fb{zs:List Int}(h:zs.Pairwise λa b=>a<=b):(Lib.compact zs).Pairwise λa b=>a<=b:=by
 unfold Lib.compact Lib.compactUpTo;rw[List.pairwise_map]
 grind [t_,List.pairwise_iff_getElem]
theorem Xw{R:Type}{a b:Nat}(h:a=b)(k:Option R):BN a b k=k:=by grind [Go.Abs.BN,Nat.beq_refl]
structure WI (nodes:List (List bW)) (part:List Int) (T:List Int):Prop where
 bK:T.Pairwise λa b=>a<=b
 mem:∀x,x∈T↔∃n∈part,∃s∈(nodes[n.toNat]?).getD [],s.At=x
theorem TM{l:List Int}(hl:l.length<=1000000){Q:List Int->Prop}(h:∀T,T.Pairwise (λa b=>a<=b)->(∀x,x∈T↔x∈l)->T.length<=l.length->Q T) :
  bM ((zce 5000 l).bind λe=>BN l.length e.length<|(zbJ 5000 e).bind λf=>some f.2) Q:=by
 unfold zce zbJ KH;rw[Abs.Nw];have d:∀m:List Int,m.map (λk=>k)=m:=λm=>List.map_id' m;rw[if_pos hl,aD,d,d,Xw (List.length_mergeSort l).symm];unfold Lm;rw[if_pos (by simp_all),aD,aZ,d,d];have g:∀a b c:Int,decide (a<=b)=true->decide (b<=c)=true->decide (a<=c)=true:=λa b c n o=>by grind
 have i:∀a b:Int,(decide (a<=b) || decide (b<=a))=true:=λa b=>by grind
 have hs:(l.mergeSort λx y=>decide (x<=y)).Pairwise λa b=>a<=b:=(List.pairwise_mergeSort g i l).imp λ{a b} h=>by simp_all
 refine h _ (Fb hs) (λx=>?_) (by grind [Go.Abs.yV,List.length_mergeSort]);rw[MY,(List.mergeSort_perm l _).mem_iff]
theorem Gb{nodes:List (List bW)}{q:iB}{L:Nat}(hL:L<=200)(hq:ru q)(hp:PR nodes q L){w:AM}(hw:jx q w) :
  bM (zb4 5000 nodes w.Part q.S.aH) λT=>WI nodes (cA q w) T/\T.length<=3200:=by
 have nn:=hq.spec.nodes.hi;obtain ⟨v,z⟩:=jH hw;have t:=hq.spec.parts.ok _ z;have pl:(cA q w).length<=16:=by
  rcases vW t.2 with h | h
  ·omega
  simp_all
 have u:=hp.len;unfold zb4;rw[if_neg (by have:=hw.part;simp_all),v,aD];refine jb (cA q w).length (λi x=>x.1=(i:Int)/\x.2.length<=200 * i/\∀y,y∈x.2↔∃n∈(cA q w).take i,∃s∈(nodes[n.toNat]?).getD [],s.At=y) (λi x f g a A=>?_) (λx f a=>?_) ⟨rfl,by simp,λy=>by simp⟩ (by omega)
 ·obtain ⟨y,T⟩:=x;obtain ⟨rfl,m,b⟩:=a;dsimp only at m b ⊢;have hn:=t.2.mem _ (bC g);obtain ⟨k,E⟩:∃k:Nat,(cA q w)[i]=(k:Int):=⟨((cA q w)[i]).toNat,by omega⟩;have hk:k<nodes.length:=by omega
  obtain ⟨K,lk⟩:=hp.cL.each k hk;rw[if_pos (cK g),bV g,aD,E,bV hk,aD];refine jb nodes[k].length (λj x=>x.1=(j:Int)/\x.2.length=T.length+j/\∀y,y∈x.2↔y∈T∨∃s∈nodes[k].take j,s.At=y) (λj x G hj a o=>?_) (λx G a=>?_) ⟨rfl,rfl,λy=>by simp⟩ (by omega)
  ·obtain ⟨y,U⟩:=x;obtain ⟨rfl,p,d⟩:=a;dsimp only at p d ⊢;rw[if_pos (cK hj),bV hj,aD,Aw (by grind),aD,bS (show j<1000000 by omega)];refine o _ ⟨rfl,by grind,λy=>?_⟩;dsimp only;rw[nj,AQ,d,or_assoc];refine or_congr_right ?_;constructor
   ·rintro (⟨s,e,r⟩ | h)
    ·grind
    ·exact ⟨_,(eE hj).2 (.inr rfl),h.symm⟩
   ·rintro ⟨s,e,r⟩;rcases (eE hj).1 e with e | e
    ·grind
    simp_all
  ·obtain ⟨y,U⟩:=x;obtain ⟨rfl,p,d⟩:=a;dsimp only at p d ⊢;rw[if_neg (by simp),bS (show i<1000000 by omega)];rw[xA] at d;refine A _ ⟨rfl,by grind,λy=>?_⟩;dsimp only;rw[d,b,GN g]
   simp_all
 ·obtain ⟨y,T⟩:=x;obtain ⟨rfl,m,b⟩:=a;dsimp only at m b ⊢;rw[if_neg (by simp)];rw[xA] at b;exact TM (by omega) λU e r M=>⟨⟨e,λx=>(r x).trans (b x)⟩,by omega⟩
def cJ(q:iB)(w:AM)(t:Int):List cV×Bool:=(Vw 5000 q w t).getD ([],false)
structure vz (q:iB) (w:AM) (T:List Int) (r:gS×Bool):Prop where
 yes:r.2=true->r.1.At∈T/\(cJ q w r.1.At).2=true/\(∀s∈T,(cJ q w s).2=true->r.1.At<=s)/\r.1.aV=0/\r.1.ae=(cJ q w r.1.At).1
 no:r.2=false->(∀s∈T,(cJ q w s).2=false)/\r.1={ aV:=0,At:=0,ae:=[] }
section
variable{nodes:List (List bW)}{q:iB}{L:Nat}(hL:L<=200)(hq:ru q)(hp:PR nodes q L){w:AM}(hw:jx q w)
include hL hq hp hw
theorem Bi{t:Int}(b:q.aR<=t):zaL 5000 nodes w.Part w.aL w.az w.aW t q.aR q.S.aH=some (cJ q w t)/\Vw 5000 q w t=some (cJ q w t):=by
 by_cases d:t<=1099511627776
 ·obtain ⟨F,_,_,e,a⟩:=CQ (by omega) hq hp hw b d;have:cJ q w t=CL F (cA q w) w.aL w.az:=by grind [cJ]
  simp_all
 ·have a:Vw 5000 q w t=some ([],false):=by
   unfold Vw
   simp_all
  have:cJ q w t=([],false):=by grind [cJ]
  rw[this];refine ⟨?_,a⟩;unfold zaL
  simp_all
theorem Us:bM (zaI 5000 q w) λr=>∃T,Db q T/\vz q w T r:=by
 unfold zaI;refine (LH hq).bind λT a=>?_;have m:=a.len;refine vk T (λ_ t=>(cJ q w t).2=false) (λi f b d e=>?_) (λf d=>?_) (by omega)
 ·have k:=(a.mem T[i]).1 (bC b);rw[if_pos (cK b),bV b,aD,(Bi hL hq hp hw k.1).2,aD,bp,bS (show i<1000000 by omega)];refine ⟨λh=>?_,λh=>e (by simp_all)⟩;rw[aD,aZ];refine ⟨T,a,⟨λ_=>⟨bC b,h,λs hs n=>?_,rfl,rfl⟩,λh=>by simp at h⟩⟩;obtain ⟨j,hj,rfl⟩:=ky hs;dsimp only;rcases Vx j i with g | g | g
  ·simp_all
  ·simp_all
  ·have:=yAZ.1 a.bK i j b hj g;omega
 ·rw[if_neg (by simp),aZ];exact ⟨T,a,⟨λh=>by simp at h,λ_=>⟨CW (A:=λt=>(cJ q w t).2=false) d,rfl⟩⟩⟩
theorem GJ{T:List Int}(b:WI nodes (cA q w) T):q.aR∈T/\∀x∈T,q.aR<=x:=by
 obtain ⟨i,g⟩:=jH hw;have d:=hq.spec.parts.ok _ g;have e:=hp.len;constructor
 ·have f:0<(cA q w).length:=by omega
  have hn:=d.2.mem _ (bC f);have hk:((cA q w)[0]).toNat<nodes.length:=by omega
  obtain ⟨a,lk⟩:=hp.cL.each _ hk;refine (b.mem _).2 ⟨_,bC f,nodes[((cA q w)[0]).toNat][0]'a.ne,?_,hp.cL.first _ hk a.ne⟩
  simp_all
 ·intro x h;obtain ⟨n,hn,s,hs,rfl⟩:=(b.mem x).1 h;have nb:=d.2.mem n hn;have hk:n.toNat<nodes.length:=by omega
  obtain ⟨a,lk⟩:=hp.cL.each _ hk;rw[eI hk,xAd] at hs;obtain ⟨j,hj,rfl⟩:=ky hs;have:=hp.cL.first _ hk a.ne;have:=a.le (N_ j) hj;omega
theorem OU:bM (zaR 5000 nodes w.Part w.aL w.az w.aW q.aR q.S.aH) fun r=>∃T,WI nodes (cA q w) T∧vz q w T r:=by
 unfold zaR
 refine (Gb hL hq hp hw).bind fun T d=>?_
 obtain ⟨d,y⟩:=d
 have a:=(GJ hL hq hp hw d).2
 have fin:∀i (e:i<T.length),(∀j (hj:j<T.length),j<i→(cJ q w T[j]).2=false)→(cJ q w T[i]).2=true→vz q w T ({ aV:=0,At:=T[i],ae:=(cJ q w T[i]).1 },true):=fun i e k h=>
  ⟨fun _=>⟨bC e,h,fun s hs n=>by
   obtain ⟨j,hj,rfl⟩:=ky hs
   dsimp only
   rcases Vx j i with g | g | g
   ·simp_all
   ·simp_all
   ·have:=yAZ.1 d.bK i j e hj g; omega,rfl,rfl⟩,fun h=>by simp at h⟩
 have none:(∀j (hj:j<T.length),(cJ q w T[j]).2=false)→vz q w T ({ aV:=0,At:=0,ae:=[] },false):=fun k=>
  ⟨fun h=>by simp at h,fun _=>⟨CW (A:=fun t=>(cJ q w t).2=false) k,rfl⟩⟩
 rw [bp]
 refine ⟨fun h=>?_,fun h=>?_⟩
 ·rw [aZ]
  grind
 ·have o:0<T.length:=by grind
  have p:aB T 0=some T[0]:=bV o
  rw [p,Option.bind_some,(Bi hL hq hp hw (a _ (bC o))).1,Option.bind_some,bp]
  refine ⟨fun u=>?_,fun u=>?_⟩
  ·grind [aZ]
  ·refine jb (T.length-1) (fun i x=>x=(T,((i+1:Nat):Int))∧∀j (hj:j<T.length),j<i+1→(cJ q w T[j]).2=false) (fun i x f e m z=>?_) (fun x f m=>?_) ⟨rfl,fun j hj v=>?_⟩ (by omega)
   ·obtain ⟨rfl,k⟩:=m
    have b:i+1<T.length:=by omega
    dsimp only
    rw [if_neg (by grind),bV b,Option.bind_some,(Bi hL hq hp hw (a _ (bC b))).1,Option.bind_some,bp]
    refine ⟨fun n=>?_,fun n=>?_⟩
    ·grind [aZ]
    ·rw [bS (show i+1<1000000 by omega)]
     grind
   ·obtain ⟨rfl,k⟩:=m
    dsimp only
    rw [if_pos (by grind),aZ]
    grind
   simp_all
theorem GH{t a:Int}(m:q.aR<=a)(h:a<=t)(o:∀n∈cA q w,∀u,a<=u->u<=t->bE q n u=bE q n t)(i:(cJ q w t).2=true):(cJ q w a).2=true:=by
 have Q:=hp.right;have p:=hq.now;have R:=hw.wall;have r:t<=1099511627776:=by
  rcases yCl 1099511627776 t with g | g
  ·exfalso;have T:Vw 5000 q w t=some ([],false):=by
    unfold Vw
    simp_all
   grind [cJ]
  omega
 obtain ⟨F,x,b,_,e⟩:=CQ (by omega) hq hp hw (show q.aR<=t by omega) r;obtain ⟨G,y,d,_,U⟩:=CQ (by omega) hq hp hw m (by omega);have w1:cJ q w t=CL F (cA q w) w.aL w.az:=by grind [cJ]
 have w2:cJ q w a=CL G (cA q w) w.aL w.az:=by grind [cJ]
 rw[w1] at i;rw[w2];obtain ⟨z,A⟩:=AJ.1 i;refine AJ.2 ⟨z,Int.le_trans A (Po b d hw.need λn hn c=>?_)⟩;have nb:=b.node n hn;obtain ⟨E,_,K⟩:=yt (F:=F) nb.1 nb.2;obtain ⟨M,_,N⟩:=yt (F:=G) nb.1 (by grind [HO.len]);have f:=x.low _ E;have k:=y.low _ M;rw[yBY nb.1] at f k;rw[K,N];obtain ⟨u,v,O,W,P,ev⟩:=k.cL c;rw[<-ev,P];by_cases g:u<t
 ·rw[o n hn u O (by omega)];exact f.le t _ (PT _) (by omega) rfl c
 ·exact f.le u _ (by omega) (by omega) rfl c
theorem ZK{t:Int}(a:(cJ q w t).2=true):t<=1099511627776:=by
 rcases yCl 1099511627776 t with g | g
 ·exfalso;have b:Vw 5000 q w t=some ([],false):=by
   unfold Vw
   simp_all
  grind [cJ]
 omega
theorem Xi:∃r,zaR 5000 nodes w.Part w.aL w.az w.aW q.aR q.S.aH=some r/\zaI 5000 q w=some r/\(∃T,Db q T/\vz q w T r):=by
 obtain ⟨r,e,T,N,Y⟩:=Us hL hq hp hw;obtain ⟨Z,e',v,i,d⟩:=OU hL hq hp hw;obtain ⟨ep,hm⟩:=jH hw;have kp:=hq.spec.parts.ok _ hm;have aa:=hp.len;have O:=GJ hL hq hp hw i;have f:∀t∈T,(cJ q w t).2=true->∃h∈v,h<=t/\(cJ q w h).2=true:=λt P Q=>by
  have A:=(N.mem t).1 P;obtain ⟨x,k,E,m,R⟩:=BD v (a:=q.aR) A.1;have U:x∈v:=by grind
  refine ⟨x,U,m,GH hL hq hp hw E m (λn hn u u1 u2=>?_) Q⟩;have nb:=kp.2.mem n hn;have hk:n.toNat<nodes.length:=by omega
  have v1:=hp.val n.toNat hk u (by omega);have v2:=hp.val n.toNat hk t A.1;rw[yBY nb.1] at v1 v2;obtain ⟨s,s1,s2,W,s4⟩:=v2;have sx:s.At<=x:=R _ ((i.mem _).2 ⟨n,hn,s,by simp_all,rfl⟩) s2;exact v1.Bl (hp.cL.each _ hk).1 ⟨s,s1,by omega,λs' o G=>W s' o (by omega),s4⟩
 have g:∀t∈v,(cJ q w t).2=true->∃h∈T,h<=t/\(cJ q w h).2=true:=λt P Q=>by
  have A:=O.2 t P;obtain ⟨x,k,E,m,R⟩:=BD T (a:=q.aR) A;have U:x∈T:=by
   rcases k with k | k
   ·rw[k];exact (N.mem _).2 ⟨PT _,.inl rfl⟩
   omega
  refine ⟨x,U,m,GH hL hq hp hw E m (λn hn u u1 u2=>?_) Q⟩;have c:∀y,x<=y->y<=t->bE q n y=bE q n x:=λy y1 y2=>BP E y1 λz z1 z2 z3=>by have:=R z ((N.mem z).2 ⟨z1,z2⟩) (by omega);omega
  simp_all
 have:Z=r:=by
  obtain ⟨p,b⟩:=r;obtain ⟨X,b'⟩:=Z;cases b with
  |true=>
   obtain ⟨o,G,h3,h4,h5⟩:=Y.yes rfl;dsimp only at o G h3 h4 h5;obtain ⟨h,t1,t2,t3⟩:=f _ o G;cases b' with
   |true=>
    obtain ⟨K,M,g3,g4,g5⟩:=d.yes rfl;dsimp only at K M g3 g4 g5;obtain ⟨s',s1,s2,W⟩:=g _ K M;have:=g3 _ t1 t3;have:=h3 _ s1 W;have ea:X.At=p.At:=by omega
    have:X=p:=by
     obtain ⟨a1,a2,a3⟩:=p;obtain ⟨b1,b2,b3⟩:=X
     simp_all
    rw[this]
   |false=>
    have:=(d.no rfl).1 _ t1
    simp_all
  |false=>
   obtain ⟨o,G⟩:=Y.no rfl;cases b' with
   |true=>
    obtain ⟨K,M,_⟩:=d.yes rfl
    grind
   |false=>
    obtain ⟨K,M⟩:=d.no rfl
    simp_all
 grind
end
end Go.Plain
end
section
namespace Go.Plain
open Go.Abs
def dY(u:Bf):jy:={ az:=u.az,ae:=u.ae,ou:=u.To }
structure WN (q:iB):Prop where
 ref:ru q
 lo:∀u∈q.L,u.bN=q.aR/\q.aR<u.To
 caps:∀(i k:Nat)(h:k<q.S.am.length)(t:Int)(c:Nat),cmp c (a_ (q.L.take i) k t)<=cmp c q.S.am[k]
 live:∀b∈q.ay,q.aR<b.To
 vm:∀b∈q.ay,∀t,b.bN<=t->q.aR<=t->a_ q.L b.Node t=bU
theorem Pe{q:iB}(h:WN q):gY 5000 (q.L.map dY) q.aR q.S.am.length=some true:=by
 have p:=h.ref.yY;unfold gY;refine bM.eq (vk (q.L.map dY) (λ_ _=>True) (λi f b _ r=>?_) (λf t=>?_) (by grind))
 ·have a:i<q.L.length:=by simp_all
  have u:=h.ref.used _ (bC a);have v:=h.lo _ (bC a);have e:(q.L.map dY)[i]=dY q.L[i]:=VG ..;obtain ⟨x,d,g⟩:=oW (dY q.L[i]).ae q.S.am.length u.yY;have:=g.2 u.shares;subst this;obtain ⟨y,k,m⟩:=TR (dY q.L[i]).az;have:=m.2 u.need;subst this;rw[if_pos (cK b),bV b,e,aD,dW,d,aD,if_neg (by simp),k,aD];have n:decide ((dY q.L[i]).ou<=q.aR)=false:=by show decide (q.L[i].To<=q.aR)=false;simp_all
  have o:decide ((dY q.L[i]).ou > 281474976710656)=false:=by show decide (q.L[i].To > _)=false;have:=u.hi;simp_all
  rw[n,o];dsimp only;rw[if_neg (by simp),bS (show i<1000000 by omega)]
  simp_all
 ·rw[if_neg (by simp),aZ]
theorem L_{a:Int}{r:aE}(h:0<=a/\a<=1099511627776)(b:aM r):dJ [({ At:=a,cu:=r }:bW)]:=
 ⟨by simp,λi d=>by grind,λs hs=>by grind⟩
theorem Tt{a:Int}{r:aE}(h:0<=a/\a<=1099511627776)(b:aM r):vN 5000 a r=some ([{ At:=a,cu:=r }],0):=by unfold vN;rw[jF (by simp) (L_ h b),aD,if_neg (by simp)]
theorem IC{q:iB}(k:bn q.S){i:Nat}(a:i<q.S.am.length):aM q.S.am[i]:=k.nodes.ok _ (bC a)
theorem Ln{q:iB}(h:WN q):bM (zeH 5000 (q.L.map dY) q.S q.aR q.ay) λr=>∃nodes,r=.inr (nodes,q.aR,q.S.aH)/\PR nodes q (1+2 * (q.L.length+q.ay.length)):=by
 have hq:=h.ref;have hs:=jT hq.spec;have nn:=hq.spec.nodes.hi;have af:=hq.now;have hf:=hq.yY;have hb:=hq.cB.len;unfold zeH;obtain ⟨rb,eb,ax⟩:=DB q.ay q.S.am.length (by omega);have:=ax.2 hq.cB;subst this;rw[dW,BB hs hq.spec,aD,if_neg (by simp;omega),eb,aD,if_neg (by simp),Pe h,aD];dsimp only;rw[if_neg (by simp)];have av:=hs.parts;refine jb q.S.aH.length (λi x=>x=((i:Int),q.S.aH.take i)) (λi x f o K Z=>?_) (λx f K=>?_) rfl (by omega)
 ·subst K;have pl:=hs.part _ (bC o);dsimp only;rw[if_pos (cK o),bV o,aD];unfold zaV;rw[xQ (by omega),aD,Aw (by simp;omega),aD,bS (show i<1000000 by omega)];exact Z _ (by rw[GN o])
 subst K;dsimp only;rw[if_neg (by simp),xA];refine jb q.S.am.length (λi x=>x.1=(i:Int)/\x.2=(q.S.am.take i).map λr=>[({ At:=q.aR,cu:=r }:bW)]) (λi x f o K Z=>?_) (λx f K=>?_) ⟨rfl,rfl⟩ (by omega)
 ·obtain ⟨y,M⟩:=x;obtain ⟨rfl,rfl⟩:=K;dsimp only;rw[if_pos (cK o),bV o,aD,Tt af (IC hq.spec o),aD,if_neg (by simp),Aw (by simp;omega),aD,bS (show i<1000000 by omega)];exact Z _ ⟨rfl,by rw[GN o,yBH];rfl⟩
 obtain ⟨y,M0⟩:=x;obtain ⟨rfl,rfl⟩:=K;dsimp only;rw[if_neg (by simp),xA];have ak:∀(r:aE)(t:Int),q.aR<=t->yE [({ At:=q.aR,cu:=r }:bW)] t r:=λr t N=>⟨_,AQ.2 rfl,N,λs' E _=>by rw[AQ.1 E];exact PT _,rfl⟩;refine jb (q.L.map dY).length (λi x=>x.1=(i:Int)/\x.2.length=q.S.am.length/\Df x.2 q.aR (1+2 * i)/\∀(k:Nat)(E:k<x.2.length)(W:k<q.S.am.length)(t:Int),q.aR<=t->yE x.2[k] t (fo q.S.am[k] (a_ (q.L.take i) k t))) (λi x f o K Z=>?_) (λx f K=>?_) ⟨rfl,by simp,⟨λk hk=>?_,λk hk E=>by simp⟩,λk E W t N=>?_⟩ (by simp;omega)
 ·obtain ⟨y,M⟩:=x;obtain ⟨rfl,O,p,G⟩:=K;dsimp only at O p G ⊢;have aa:i<q.L.length:=by simpa using o
  have u:=hq.used _ (bC aa);have lo:=h.lo _ (bC aa);have e:(q.L.map dY)[i]=dY q.L[i]:=VG ..;have st:∀k t,a_ (q.L.take (i+1)) k t=AP (a_ (q.L.take i) k t) (jY q.L[i] k t):=λk t=>by rw[GN aa,mZ]
  rw[if_pos (cK o),bV o,e,aD];refine (Ca (by omega) p (by omega) (a:=q.aR) (b:=(dY q.L[i]).ou) (l:=(dY q.L[i]).ae) (need:=(dY q.L[i]).az) (by rw[O];exact u.shares) u.yY u.need (PT _) (show q.aR<q.L[i].To by omega) u.hi (λk hk t v h1 W hv c=>?_)).bind λr ab=>?_
  ·have Q:k<q.S.am.length:=by omega
   have ev:=hv.Bl (p.each k hk).1 (G k hk Q t h1);have cp:=h.caps (i+1) k Q t c;rw[st,vZ] at cp;have ea:jY q.L[i] k t=mulR (dM q.L[i].ae k) q.L[i].az:=by unfold jY;rw[if_pos ⟨by omega,W⟩]
   rw[ea] at cp;rw[ev,Cq];show cmp c (mulR (dM q.L[i].ae k) q.L[i].az)<=_;omega
  ·obtain ⟨r1,r2,r3⟩:=ab;rw[if_neg (by simp[r1]),bS (show i<1000000 by omega)];refine Z _ ⟨rfl,by dsimp only;omega,⟨λk hk=>?_,λk hk E=>?_⟩,λk E W t N=>?_⟩
   ·have T:=r3 k (by dsimp only at hk;omega) hk;exact ⟨T.ok,by have:=T.len;have:=(p.each k (by dsimp only at hk;omega)).2;dsimp only at *;omega⟩
   ·have T:=r3 k (by dsimp only at hk;omega) hk;have n0:=(p.each k (by dsimp only at hk;omega)).1.ne;dsimp only;rw[T.first n0 E,p.first k (by dsimp only at hk;omega) n0]
   ·have T:=r3 k (by dsimp only at E;omega) E;have:=T.val t _ (G k (by omega) W t N);dsimp only;rw[st];by_cases g:t<q.L[i].To
    ·have ea:jY q.L[i] k t=mulR (dM q.L[i].ae k) q.L[i].az:=by unfold jY;rw[if_pos ⟨by omega,g⟩]
     rw[if_pos ⟨N,g⟩] at this;rw[ea,<-HM];exact this
    ·have ea:jY q.L[i] k t=bU:=by unfold jY;rw[if_neg λX=>g X.2]
     rw[if_neg (show ¬(q.aR<=t/\t<(dY q.L[i]).ou) from λX=>g X.2)] at this;rw[ea,Hd];exact this
 ·obtain ⟨y,M⟩:=x;obtain ⟨rfl,O,p,G⟩:=K;dsimp only at O p G ⊢;rw[if_neg (by simp)];rw[xF,xA] at G;rw[xF] at p;refine jb q.ay.length (λi x=>x.1=(i:Int)/\x.2.length=q.S.am.length/\Df x.2 q.aR (1+2 * (q.L.length+i))/\∀(k:Nat)(E:k<x.2.length)(t:Int),q.aR<=t->yE x.2[k] t (bE { q with ay:=q.ay.take i } k t)) (λi x f o K Z=>?_) (λx f K=>?_) ⟨rfl,O,by simpa using p,λk E t N=>?_⟩ (by omega)
  ·obtain ⟨y,M⟩:=x;obtain ⟨rfl,O,p,G⟩:=K;dsimp only at O p G ⊢;have bk:=hq.cB.each i o;have lv:=h.live _ (bC o);have nd:=bk.one.node;obtain ⟨n,en⟩:∃n:Nat,q.ay[i].Node=(n:Int):=⟨q.ay[i].Node.toNat,by omega⟩;have hn:n<M.length:=by omega
   have ad:n<q.S.am.length:=by omega
   obtain ⟨sk,lk⟩:=p.each n hn;have f0:=p.first n hn sk.ne;rw[if_pos (cK o),dW,bV o,aD,if_neg (by simp;omega),en,bV hn,aD,bV ad,aD];have nv:=IC hq.spec ad;have an:kz q.S.am (n:Int)=q.S.am[n]:=zb ad;have Y:∀t,q.aR<=t->q.ay[i].bN<=t->t<q.ay[i].To->bE { q with ay:=q.ay.take i } n t=q.S.am[n]:=λt h1 W h3=>by
    unfold bE;rw[if_neg]
    ·have:=h.vm _ (bC o) t W h1;rw[en] at this;show fo (kz q.S.am n) (a_ q.L n t)=_;rw[this,an];exact dU λc=>by rw[Cq,NX];omega
    ·rintro ⟨b,R,m1,m2,m3⟩;obtain ⟨j,hj,rfl⟩:=Oe.1 R;rw[Cs] at hj;simp only[Sn] at m1 m2 m3;refine (bk.up j (by omega) (by omega)).2 ⟨by rw[m1,en],by omega,bk.one.span,by omega,by omega⟩
   have a0:=bk.one.lo;have a1:=bk.one.hi;have sp:=bk.one.span;have mx:∀P:Int->Prop,P (if q.aR > q.ay[i].bN then q.aR else q.ay[i].bN)=P (max q.aR q.ay[i].bN):=λP=>by congr 1;split <;> omega
   rw[show (if q.aR > q.ay[i].bN then q.aR else q.ay[i].bN)=max q.aR q.ay[i].bN by split <;> omega]
   refine (xL (by omega) sk nv (by omega) (show max q.aR q.ay[i].bN<q.ay[i].To by omega) (by omega) λt v h1 W hv c=>?_).bind λr ab=>?_
   ·have ev:=hv.Bl sk (G n hn t (by omega));rw[ev,Y t (by omega) (by omega) W];exact PT _
   ·obtain ⟨r1,T⟩:=ab;rw[if_neg (by simp[r1]),aD,bS (show i<1000000 by omega),xAc];refine Z _ ⟨rfl,by simp[O],⟨λk hk=>?_,λk hk E=>?_⟩,λk E t N=>?_⟩
    ·by_cases g:n=k
     ·subst g;have e:(M.set n r.1)[n]'(by simpa using hn)=r.1:=yB1 _;show dJ (M.set n r.1)[n]/\(M.set n r.1)[n].length<=_;rw[e];exact ⟨T.ok,by have:=T.len;omega⟩
     ·have d:k<M.length:=by simpa using hk
      have e:(M.set n r.1)[k]'(by simpa using d)=M[k]:=yB8 g _;show dJ (M.set n r.1)[k]/\(M.set n r.1)[k].length<=_;rw[e];have:=p.each k d;exact ⟨this.1,by have:=this.2;omega⟩
    ·by_cases g:n=k
     ·subst g;have e:(M.set n r.1)[n]'(by simpa using hn)=r.1:=yB1 _;simp only[e];rw[T.first sk.ne T.ok.ne,f0]
     ·have d:k<M.length:=by simpa using hk
      have e:(M.set n r.1)[k]'(by simpa using d)=M[k]:=yB8 g _;simp only[e];exact p.first k d (p.each k d).1.ne
    ·have d:k<M.length:=by simpa using E
     have A:Ed (q.ay.take (i+1)) k t↔Ed (q.ay.take i) k t∨(q.ay[i].Node=(k:Int)/\q.ay[i].bN<=t/\t<q.ay[i].To):=by
      unfold Ed;rw[GN o];constructor
      ·rintro ⟨b,R,m⟩;rcases nj.1 R with g | g
       ·exact .inl ⟨b,g,m⟩
       ·rw[AQ.1 g] at m;exact .inr m
      ·rintro (⟨b,g,m⟩ | m)
       ·exact ⟨b,yB4 _ g,m⟩
       ·exact ⟨_,yBz _ (AQ.2 rfl),m⟩
     by_cases g:n=k
     ·subst g;have e:(M.set n r.1)[n]'(by simpa using hn)=r.1:=yB1 _;simp only[e];have Vr:=G n hn t N;have new:=T.val t _ Vr;by_cases X:q.ay[i].bN<=t/\t<q.ay[i].To
      ·rw[if_pos ⟨by omega,X.2⟩,Y t N X.1 X.2] at new;have:bE { q with ay:=q.ay.take (i+1) } n t=bU:=by
        unfold bE;rw[if_pos];exact A.2 (.inr ⟨en,X⟩)
       rw[this];have z:fo q.S.am[n] q.S.am[n]=bU:=dU λc=>by rw[Cq,NX];omega
       rw[z] at new;exact new
      ·rw[if_neg λU=>X ⟨by omega,U.2⟩] at new;have:bE { q with ay:=q.ay.take (i+1) } n t=bE { q with ay:=q.ay.take i } n t:=by
        unfold bE;by_cases U:Ed (q.ay.take i) n t
        ·rw[if_pos (show Ed (q.ay.take (i+1)) n t from A.2 (.inl U)),if_pos (show Ed (q.ay.take i) n t from U)]
        ·rw[if_neg (show ¬Ed (q.ay.take (i+1)) n t from λg4=>(A.1 g4).elim U λg5=>X g5.2),if_neg (show ¬Ed (q.ay.take i) n t from U)]
       rw[this];exact new
     ·have e:(M.set n r.1)[k]'(by simpa using d)=M[k]:=yB8 g _;simp only[e];have:bE { q with ay:=q.ay.take (i+1) } k t=bE { q with ay:=q.ay.take i } k t:=by
       unfold bE;by_cases U:Ed (q.ay.take i) k t
       ·rw[if_pos (show Ed (q.ay.take (i+1)) k t from A.2 (.inl U)),if_pos (show Ed (q.ay.take i) k t from U)]
       ·rw[if_neg (show ¬Ed (q.ay.take (i+1)) k t from λg4=>(A.1 g4).elim U λg5=>by rw[en] at g5;omega),if_neg (show ¬Ed (q.ay.take i) k t from U)]
      rw[this];exact G k d t N
  ·obtain ⟨y,M⟩:=x;obtain ⟨rfl,O,p,G⟩:=K;dsimp only at O p G ⊢;rw[if_neg (by simp),aZ];rw[xA] at G;exact ⟨M,rfl,O,p,G⟩
  ·have e:bE { q with ay:=q.ay.take 0 } k t=fo (kz q.S.am k) (a_ q.L k t):=by
    unfold bE;rw[if_neg];rintro ⟨b,R,_⟩;simp at R
   have Q:k<q.S.am.length:=by dsimp only at E;omega
   rw[e,zb Q];exact G k E Q t N
 ·have d:k<q.S.am.length:=by simpa using hk
  have e:((q.S.am).map λr=>[({ At:=q.aR,cu:=r }:bW)])[k]'(by simpa using d)=[{ At:=q.aR,cu:=q.S.am[k] }]:=VG ..;simp only[e];exact ⟨L_ af (IC hq.spec d),by simp⟩
 ·have e:((q.S.am).map λr=>[({ At:=q.aR,cu:=r }:bW)])[k]'(by simpa using W)=[{ At:=q.aR,cu:=q.S.am[k] }]:=VG ..;simp only[e];have z:fo q.S.am[k] (a_ (q.L.take 0) k t)=q.S.am[k]:=dU λc=>by rw[Cq];simp[a_,NX]
  rw[z];exact ak _ t N
end Go.Plain
end
section
namespace Go.Plain
open Go.Abs
def zeroJ:aK:={ Id:=0,cw:=0,Queue:=0,aL:=0,az:={ bL:=0,Mem:=0,bO:=0,bR:=0 },aW:=0,aF:=[],State:=0,Ok:=false,dt:=false,aN:=0,dy:=0,Start:=0,End:=0,Array:=0 }
theorem Zi{l:List aK}(hl:l.length<=300)(hs:bQ l)(id:Int):bM (zaH 5000 l id) λr=>(r.2=true↔∃j∈l,j.Id=id)/\(r.2=true->At l id r.1):=by
 unfold zaH;rw[jV];refine half hl hs id (λj=>some (decide (j.Id<id))) (λj hj=>rfl) (λi=>some i) (λi d g m=>?_) _ (λf x=>?_)
 ·rw[aZ,bp];refine ⟨λh=>?_,λh=>?_⟩
  ·simp only[br] at h;have a:i<l.length:=by omega
   rw[bV a,aD,aZ];simp only[nK];refine ⟨⟨λe=>⟨_,bC a,e⟩,λ⟨j,b,e⟩=>?_⟩,λe=>⟨by omega,by omega,by simp_all⟩⟩;obtain ⟨k,hk,rfl⟩:=ky b;rcases Vx k i with q | q | q
   ·grind
   ·simp_all
   ·have:=hs.lt q hk;grind
  ·simp only[br] at h;simp only[aZ,bT,FE,false_implies,KI]
   grind [List.getElem_of_mem]
 grind
section
variable{l:List aK}
theorem GM(hl:l.length<=300)(hs:bQ l){k:Nat}(hk:k<l.length):zaH 5000 l l[k].Id=some ((k:Int),true):=by obtain ⟨⟨r,b⟩,e,d,f⟩:=Zi hl hs l[k].Id;have g:b=true:=d.2 ⟨_,bC hk,rfl⟩;subst g;have a:At l l[k].Id r:=f rfl;have:=hs.inj a.hi hk a.is;have:=a.lo;rw[e,show r=(k:Int) by omega]
theorem ui{j:aK}(h:fj j):zeN 5000 j=some true:=by obtain ⟨r,e,q⟩:=AN j;rw[e,q.2 h]
theorem QF(hs:bQ l){k:Nat}(hk:k<l.length){j:aK}(d:j.Id=l[k].Id):bQ (l.set k j):=by
 have a:∀i (h:i<l.length),((l.set k j)[i]'(by simp_all)).Id=l[i].Id:=λi h=>by grind
 intro i e;have b:i+1<l.length:=by simp_all
 rw[a i (by omega),a (i+1) b];exact hs i b
end
def Io(x:Int):Int:=if x≥281474976710656 then 0 else x+1
theorem KL{x:Int}(h:0<=x):fX 5000 x=some (Io x):=by
 unfold fX Io;simp only[br]
 grind [wr]
def nS(Q:List Int)(q:Int):List Int:=if 0<=q/\q<Q.length then Q.set q.toNat (Io (Q[q.toNat]?.getD 0)) else Q
theorem Pg(Q:List Int)(q:Int):(nS Q q).length=Q.length:=by grind [nS]
def ki(Q:List Int):Prop:=∀x∈Q,0<=x/\x<=281474976710656
theorem SC{x:Int}(h:0<=x/\x<=281474976710656):0<=Io x/\Io x<=281474976710656:=by grind [Io]
theorem HY{Q:List Int}(h:ki Q)(q:Int):ki (nS Q q):=by
 unfold nS;split
 ·rename_i hq;have hl:q.toNat<Q.length:=by omega
  intro x a;rcases List.mem_or_eq_of_mem_set a with e | e
  ·exact h x e
  ·subst e;rw[eI hl];exact SC (h _ (bC hl))
 ·exact h
theorem LL{Q:List Int}(h:ki Q)(q:Int):zba 5000 Q q=some (nS Q q):=by
 unfold zba nS;by_cases hq:0<=q/\q<Q.length
 ·rw[if_pos (by simp_all),if_pos hq];obtain ⟨a,e⟩:=Eh (l:=Q) hq.1 hq.2;rw[e,aD,KL (h _ (bC a)).1,aD,aD,eI a];rfl
 grind
def jD(Q:List Int)(a b:Int):List Int:=if b=a then nS Q a else nS (nS Q a) b
theorem KE(Q:List Int)(a b:Int):(jD Q a b).length=Q.length:=by grind [jD,Pg]
theorem Pz{Q:List Int}(h:ki Q)(a b:Int):ki (jD Q a b):=by grind [jD,HY]
section
variable{l:List aK}
def DV(x:Int):Prop:=x=1∨x=2
instance (x:Int):Decidable (DV x):=by unfold DV;infer_instance
theorem QG(x:Int):jt 5000 x=some (decide (DV x)):=by unfold jt;congr 1;rw[Bool.eq_iff_iff];rw[br];simp only[gq,nK,DV]
end
structure SH (st:cf):Prop where
 bg:st.ai.length<=300
 after:∀j∈st.ai,j.aF.length<=10
 b_:st.ah.length<=300
 asc:zu st.ah
 ids:∀a∈st.ah,0<=a.aV/\a.aV<=1048576
 sh:∀a∈st.ah,a.ae.length<=300
 cB:st.ay.length<=20
 use:st.gF.length<=20
 stamps:st.aA.aj.length<=20
theorem EE{s:bm}{st:cf}(hw:lm s st)(q:bo s st):SH st:=
 ⟨hw.bg,hw.after,hw.b_,Bx q,Hl q,hw.sh,hw.cB,hw.use,hw.stamps⟩
theorem ZI{st:cf}(h:SH st) :
  QX 5000 st.aA.aj st.ai (st.ah.map λa=>(a.aV,a)) st.aR st.Next st.cX st.ay st.gF st.aA.am=some st:=by
 have hl:=h.bg;have b:=h.cB;have d:=h.use;have hs:=h.stamps;unfold QX;rw[MR (by omega) h.after,aD,show aY 5000 (st.ah.map λa=>(a.aV,a))=some st.ah from Eb h.b_ h.asc h.ids h.sh,aD,BR (by omega),aD,rD (by omega),aD,show zb7 5000 st.aA.aj=some st.aA.aj from xQ (by omega),aD]
theorem Pw{st:cf}(h:SH st):bP 5000 st st=some true:=by have a:=h.bg;have b:=h.use;have d:=h.stamps;have e:=h.cB;unfold bP;rw[if_pos (by simp),HU _ (by omega) h.after,aD,if_pos rfl,Cf _ h.b_ h.sh,aD,if_pos rfl,DA _ (by omega),aD,if_pos rfl,vP _ (by omega),aD,if_pos rfl,vP _ (by omega),aD];simp
end Go.Plain
end
section
namespace Go.Plain
open Go.Abs
section
variable{l:List aK}
theorem get_some(hl:l.length<=300)(hs:bQ l){k:Nat}(hk:k<l.length)(a:l[k].aF.length<=1000):zbp 5000 l l[k].Id=some (l[k],true):=by unfold zbp;rw[GM hl hs hk,aD];simp only[Om,bT,cn];rw[bV hk,aD,Di (by omega),aD]
theorem YQ(hl:l.length<=300)(hs:bQ l){k:Nat}(hk:k<l.length)(a:l[k].aF.length<=1000):zcQ 5000 l l[k].Id=some (l[k],true):=by unfold zcQ;rw[get_some hl hs hk a,aD]
end
end Go.Plain
end
section
namespace Go.Plain
open Go.Abs
def LS(st:cf)(id:Int):aK:=(st.ai.find? λj=>j.Id == id).getD zeroJ
theorem Zr{st:cf}(hs:bQ st.ai){i:Nat}(a:i<st.ai.length):LS st st.ai[i].Id=st.ai[i]:=by
 unfold LS;obtain ⟨j,e⟩:∃j,st.ai.find? (λj=>j.Id == st.ai[i].Id)=some j:=by
  cases h:st.ai.find? (λj=>j.Id == st.ai[i].Id) with
  |some j=>simp_all
  |none=>
   have:=List.find?_eq_none.1 h _ (bC a)
   simp_all
 rw[e,xAd];have b:=List.find?_some e;simp only[nK] at b;obtain ⟨k,hk,rfl⟩:=ky (yBx e);have:=hs.inj hk a b
 simp_all
def tZ(st:cf)(a:bF):Int:=(LS st a.aV).Start+(LS st a.aV).aW
def eY(st:cf)(a:bF):Bf:={ bN:=st.aR,To:=tZ st a,az:=a.az,ae:=a.ae }
def zm(s:bm)(st:cf):iB:={ S:=s,aR:=st.aR,L:=st.ah.map (eY st),ay:=st.ay }
section
variable{s:bm}{st:cf}(hw:lm s st)(q:bo s st)
include hw q
theorem vU{a:bF}(d:a∈st.ah):∃i,∃h:i<st.ai.length,st.ai[i].Id=a.aV/\e_ s st st.ai[i] a/\s_ st.ai[i]=true/\LS st a.aV=st.ai[i]:=by obtain ⟨j,hj,P⟩:=eO.mem q.b_ a d;obtain ⟨e,f⟩:=Si.1 hj;obtain ⟨i,b,rfl⟩:=ky e;exact ⟨i,b,P.Fs.symm,P,f,by rw[P.Fs];exact Zr q.bg.bK b⟩
theorem Fm{a:bF}(b:a∈st.ah):st.aR<tZ st a/\tZ st a<=st.aR+65536:=by
 obtain ⟨i,d,_,P,_,e⟩:=vU hw q b;have j:=q.bg.each _ (bC d);have f:=P.now;have g:=j.start;have h:=j.ok.wall
 grind [tZ]
omit hw q in
theorem Nb{H:List aK}{A:List bF}{F:List aE}(h:eO s st H A F):A.length=H.length:=by
 induction H generalizing A F with
 |nil=>rw[show A=[] from h];rfl
 |cons j H ih=>obtain ⟨b,a,rfl,_,_,d⟩:=h;grind
theorem qT:st.ah.length<=st.ai.length:=by rw[Nb q.b_];grind
omit hw q in
theorem Bj(L:List Bf)(k t:Int)(c:Nat):cmp c (a_ L k t)=(L.map λu=>cmp c (jY u k t)).sum:=by
 have:∀(L:List Bf)(r:aE),cmp c (L.foldl (λr u=>AP r (jY u k t)) r)=cmp c r+(L.map λu=>cmp c (jY u k t)).sum:=by
  intro L;induction L with
  |nil=>simp_all
  |cons u L ih=>grind [vZ]
 grind [a_.eq_1,NX]
omit hw q in
theorem caps_of{H:List aK}{A:List bF}{F:List aE}(h:eO s st H A F)(m:∀r∈F,aM r)(a:∀j∈H,aM j.az)(k:Nat)(hk:k<F.length)(t:Int)(c:Nat):((A.map (eY st)).map λu=>cmp c (jY u k t)).sum<=cmp c F[k]:=by
 induction H generalizing A F with
 |nil=>
  rw[show A=[] from h]
  grind [vY,List.getElem_mem]
 |cons j H ih=>
  obtain ⟨b,n,rfl,P,d,e⟩:=h;have hl:k<(kP F b).length:=by grind [zeP]
  have:=ih e (uc d) (λi f=>a i (pM _ f)) hl;rw[mf hl] at this;unfold qy at this;rw[Cq] at this;rw[sH,sH,List.sum_cons];have le:cmp c (jY (eY st b) k t)<=cmp c (mulR (dM b.ae k) b.az):=by
   unfold jY;split
   ·exact PT _
   ·rw[NX];rw[Bn];have o:=xV (l:=b.ae) (λx g=>by have:=(P.ny.shares.mem x g);omega) k;rw[P.need];exact yBL o (vY.1 (a j (sq ..)) c).1
  omega
theorem LJ:∀u∈(zm s st).L,vu u s.am.length:=λu f=>by
 obtain ⟨a,d,rfl⟩:=iQ.1 f;obtain ⟨i,g,_,P,_,e⟩:=vU hw q d;have j:=q.bg.each _ (bC g);have b:=Fm hw q d;have n:=q.nums.now;refine ⟨P.ny.shares,hw.sh a d,?_,n.1,?_⟩
 ·show aM a.az;rw[P.need];exact j.ok.need
 ·show tZ st a<=_;omega
theorem Rt(a:st.ai.length<=30):ru (zm s st):={
 spec:=q.spec
 now:=q.nums.now
 cB:=q.jf.cB
 used:=LJ hw q
 yY:=by have:=qT hw q;show (st.ah.map (eY st)).length<=100;grind }
theorem WW(f:st.ai.length<=30):WN (zm s st):={
 ref:=Rt hw q f
 lo:=λu hu=>by obtain ⟨a,d,rfl⟩:=iQ.1 hu;exact ⟨rfl,(Fm hw q d).1⟩
 caps:=λi k hk t c=>by
  have o:=caps_of q.b_ q.spec.nodes.ok (λj hj=>(q.bg.each j (Si.1 hj).1).ok.need) k hk t c;rw[Bj];show ((((st.ah.map (eY st)).take i)).map λu=>cmp c (jY u k t)).sum<=cmp c s.am[k];have p:((st.ah.map (eY st)).map λu=>cmp c (jY u k t)).sum=(((st.ah.map (eY st)).take i).map λu=>cmp c (jY u k t)).sum+(((st.ah.map (eY st)).drop i).map λu=>cmp c (jY u k t)).sum:=by grind [List.take_append_drop]
  have N:0<=(((st.ah.map (eY st)).drop i).map λu=>cmp c (jY u k t)).sum:=by
   have:∀M:List Bf,(∀u∈M,vu u s.am.length)->0<=(M.map λu=>cmp c (jY u k t)).sum:=by
    intro M;induction M with
    |nil=>simp_all
    |cons u M ih=>
     intro m;have:=ih λv r=>m v (pM _ r);have:=JL (m u (sq ..)) k t c
     grind
   exact this _ λu hu=>LJ hw q u (yBh hu)
  omega
 live:=λb h=>(q.jf.live b h).2
 vm:=λb h t o p=>dU λc=>by
  rw[Bj,NX];show ((st.ah.map (eY st)).map λu=>cmp c (jY u b.Node t)).sum=0;have:∀x∈(st.ah.map (eY st)).map λu=>cmp c (jY u b.Node t),x=0:=λx A=>by
   obtain ⟨u,hu,rfl⟩:=iQ.1 A;obtain ⟨a,d,rfl⟩:=iQ.1 hu;obtain ⟨i,hi,E,P,_,e⟩:=vU hw q d;by_cases g:∃y∈a.ae,y.Node=b.Node
   ·obtain ⟨y,G,K⟩:=g;have:=q.jf.vm a d _ (bC hi) E y G b h K.symm;unfold jY;rw[if_neg,NX];show ¬(st.aR<=t/\t<tZ st a)
    grind [tZ]
   ·have z:dM a.ae b.Node=0:=by
     grind [zr]
    unfold jY;split
    ·show cmp c (mulR (dM a.ae b.Node) a.az)=0
     grind [Bn]
    grind [NX]
  have n:∀M:List Int,(∀x∈M,x=0)->M.sum=0:=by
   intro M;induction M with
   |nil=>simp_all
   |cons x M ih=>simp_all
  simp_all }
theorem Va{i:Nat}(a:i<st.ai.length)(h:s_ st.ai[i]=true):vM 5000 st.ai[i]=some (st.ai[i].Start+st.ai[i].aW):=by have j:=q.bg.each _ (bC a);have b:=j.ok.wall;have d:=j.ok.start;unfold vM eG;rw[dW,ui j.ok,aD,if_neg (by simp),aD];dsimp only;unfold s_ at h;rw[h,if_neg (by simp),wr (by omega) (by omega)]
theorem Gv(d:st.ai.length<=30){h:List (Int×bF)}(m:QX 5000 st.aA.aj st.ai h st.aR st.Next st.cX st.ay st.gF st.aA.am=some st):∃nodes,zdp 5000 st.aA.aj st.ai h s.am s.aH s.aj s.aU s.aq.nV s.aq.cZ s.aq.gy s.aq.bZ s.cr s.Mode s.ai s.lc s.aI s.bx s.dw s.In s.Out s.cq st.aR st.Next st.cX st.ay st.gF st.aA.am=some (.inr (nodes,st.aR,s.aH))/\PR nodes (zm s st) (1+2 * (st.ah.length+st.ay.length)):=by
 have hl:=hw.bg;have u:=hw.b_;obtain ⟨r,e,nodes,rfl,hp⟩:=Ln (WW hw q d);have n:(zm s st).L.length=st.ah.length:=xF ..;rw[n] at hp;refine ⟨nodes,?_,hp⟩;unfold zdp;rw[m,aD];have z:FG ({ az:=({ bL:=0,Mem:=0,bO:=0,bR:=0 }:aE),ae:=[],ou:=0 }:jy) 0 (st.ah.length:Int)=some []:=by
  unfold FG
  grind
 rw[z,aD];refine bM.eq (jb st.ah.length (λi x=>x=((i:Int),(st.ah.take i).map λa=>dY (eY st a))) (λi x f b g o=>?_) (λx f g=>?_) rfl (by omega))
 ·subst g;have p:=bC b;obtain ⟨k,hk,t,P,hj,v⟩:=vU hw q p;dsimp only;rw[if_pos (cK b),bV b,aD,<-t,YQ hl q.bg.bK hk (by have:=hw.after _ (bC hk);omega),aD,Va hw q hk hj,aD,Aw (by grind),aD,bS (show i<1000000 by omega)];refine o _ ?_;rw[GN b,yBH];have:dY (eY st st.ah[i])={ az:=st.ah[i].az,ae:=st.ah[i].ae,ou:=st.ai[k].Start+st.ai[k].aW }:=by
   grind [dY,eY,tZ]
  simp_all
 ·subst g;dsimp only;rw[if_neg (by simp),rM hw.spec,aD,xA];have:(st.ah.map λa=>dY (eY st a))=(zm s st).L.map dY:=by show _=(st.ah.map (eY st)).map dY;simp_all
  rw[this];have y:zeH 5000 ((zm s st).L.map dY) s st.aR st.ay=some (.inr (nodes,st.aR,s.aH)):=e
  grind [aZ]
end
end Go.Plain
end
section
namespace Go.Plain
open Go.Abs
theorem few30P(s:bm)(st:cf):bM (zcG 5000 s st) λr=>r=true->st.ai.length<=30:=by
 simp only[zcG,dW];refine (few07 s).bind λr b=>?_;simp only[if_true,aZ,bp];refine ⟨by simp,λh=>?_⟩;refine (few17 st.ai).bind λd a=>?_;simp only[bp,aZ];refine ⟨by simp,λh=>?_⟩;simp only[gq,br,not_or,Int.not_lt,iF,oE] at h;obtain ⟨⟨⟨⟨h,e⟩,g⟩,k⟩,m⟩:=h;have n:=a h;refine vk st.ah (λ_ q=>True) (λi f h _ b=>?_) (λf hq=>?_) (by omega)
 ·simp only[cK h,if_true,bV h,Option.bind_some,bS (show i<1000000 by omega),bp,aZ,br]
  simp_all
 ·simp only[eC,bT,cn,aZ];omega
def dr(s:bm)(j:aK):AM:={ Part:=((s.aj[j.Queue.toNat]?).getD default).Part,aL:=j.aL,az:=j.az,aW:=j.aW }
theorem zf{s:bm}{j:aK}(hq:0<=j.Queue/\j.Queue<s.aj.length):∃h:j.Queue.toNat<s.aj.length,aB s.aj j.Queue=some s.aj[j.Queue.toNat]/\dr s j={ Part:=s.aj[j.Queue.toNat].Part,aL:=j.aL,az:=j.az,aW:=j.aW }:=by grind [Eh,dr]
theorem Bt{s:bm}{st:cf}{q:iB}(k:bn s)(eq:q.S=s){j:aK}(h:my s st j):jx q (dr s j):=by obtain ⟨a,_,e⟩:=zf ⟨h.ok.queue.1,h.queue⟩;have b:=k.gX.ok _ (bC a);have m:=h.ok.many;rw[e];exact ⟨by rw[eq];exact b.part,by grind,h.ok.need,h.ok.tX,h.ok.wall⟩
def named(j:aK)(r:gS×Bool):gS×Bool:=if r.2=true then ({ aV:=j.Id,At:=r.1.At,ae:=r.1.ae },true) else ({ aV:=0,At:=0,ae:=[] },false)
section
variable{nodes:List (List bW)}{q:iB}{L:Nat}(hL:L<=200)(hq:ru q)(hp:PR nodes q L){st:cf}{j:aK}(hj:my q.S st j)
include hL hq hp hj
end
section
variable{nodes:List (List bW)}{q:iB}{L:Nat}(hL:L<=200)(hq:ru q)(hp:PR nodes q L){w:AM}(hw:jx q w)
include hL hq hp hw
end
end Go.Plain
end
section
namespace Go.Plain
open Go.Abs
theorem J_{l:List cV}{n:Int}(h:ba l n){y:cV}(hl:∀x∈l,x.Node<y.Node)(a:0<=y.Node/\y.Node<n)(hm:1<=y.aL/\y.aL<=64):ba (l++[y]) n:=λi b=>by
 rw[AG,List.length_singleton] at b;by_cases g:i<l.length
 ·have s:=h i g;have e:(l++[y])[i]'(by omega)=l[i]:=yCc g;rw[e];refine ⟨?_,s.lt,s.lo,s.hi⟩;have:KA ((l++[y]).map (·.Node)) i=KA (l.map (·.Node)) i:=by
   cases i with
   |zero=>rfl
   |succ i=>grind [qN]
  rw[this];exact s.up
 ·have d:i=l.length:=by omega
  subst d;have e:(l++[y])[l.length]'(by simp)=y:=by simp
  rw[e];refine ⟨?_,a.2,hm.1,hm.2⟩;cases f:l.length with
  |zero=>show (-1:Int)<y.Node;omega
  |succ i=>grind [qN]
section
variable{F:List aE}{l:List Int}{need:aE}(hP:pz F l)(hR:nE l F.length)(hn:aM need)(hz:need≠bU)
include hP hR hn hz
structure Qt (F:List aE) (need:aE) (l:List Int) (x:Int×List cV) (many:Int):Prop where
 shares:ba x.2 F.length
 mem:∀y∈x.2,y.Node∈l/\y.aL<=dG (kz F y.Node) need
 Uk:x.1+kN x.2=many
 left:x.1=if many<=cQ F l need then 0 else many-cQ F l need
theorem Ph{many:Int}(hm:1<=many)(i:Nat):Qt F need (l.take i) (rY F need (l.take i) many) many:=by
 induction i with
 |zero=>refine ⟨λi h=>by grind [rY],λy a=>by grind [rY],by simp[rY,kN],?_⟩;simp only[rY,List.take_zero,List.foldl_nil,cQ,List.map_nil,List.sum_nil];omega
 |succ i ih=>
  by_cases d:i<l.length
  ·have c:=ow hP hn (bC d);have st:=ur hP hn hz d many;have rs:=yS hP hn hz d;have up:∀n∈l.take i,n<l[i]:=λn e=>by
    obtain ⟨j,hj,rfl⟩:=Oe.1 e;rw[Cs] at hj;rw[Sn];have:∀m,j<m->∀(hm:m<l.length),l[j]<l[m]:=by
     intro m;induction m with
     |zero=>omega
     |succ m g=>
      intro k hm;have s:=(hR (m+1) hm).1
      grind [qt]
    grind
   have b:∀n,n∈l.take (i+1)↔n∈l.take i∨n=l[i]:=λn=>by rw[GN d,nj,AQ]
   have p:=ih.left;have r:=yd hP hn hz (i:=i);rw[st];generalize rY F need (l.take i) many=x at *;have t:0<=x.1:=by omega
   unfold ZV;by_cases q:HD x.1 (dG (kz F l[i]) need)=0
   ·rw[if_pos q];refine ⟨ih.shares,λy a=>⟨(b _).2 (.inl (ih.mem y a).1),(ih.mem y a).2⟩,ih.Uk,?_⟩
    grind [HD]
   ·rw[if_neg q];have o:=hP.node _ (bC d);have f:1<=HD x.1 (dG (kz F l[i]) need)/\HD x.1 (dG (kz F l[i]) need)<=64/\HD x.1 (dG (kz F l[i]) need)<=dG (kz F l[i]) need:=by
     unfold HD at q ⊢;omega
    refine ⟨J_ ih.shares (λy a=>up _ (ih.mem y a).1) o ⟨f.1,f.2.1⟩,λy a=>?_,?_,?_⟩
    ·rcases nj.1 a with a | a
     ·exact ⟨(b _).2 (.inl (ih.mem y a).1),(ih.mem y a).2⟩
     simp_all
    ·grind [Qt.Uk,kN]
    grind [HD]
  grind [List.take_of_length_le]
theorem UM{many:Int}(h:(CL F l many need).2=true):ba (CL F l many need).1 F.length/\kN (CL F l many need).1=many/\(∀y∈(CL F l many need).1,y.Node∈l)/\∀(n:Nat)(hn:n<F.length),xE (mulR (dM (CL F l many need).1 n) need) F[n]∨dM (CL F l many need).1 n=0:=by
 obtain ⟨m,u⟩:=AJ.1 h;have P:=Ph hP hR hn hz m l.length;rw[xA] at P;have e:CL F l many need=((rY F need l many).2,true):=by unfold CL;simp_all
 rw[e];have z:=P.left;rw[if_pos u] at z;refine ⟨P.shares,by grind [Qt.Uk],λy f=>(P.mem y f).1,λn p=>?_⟩;dsimp only;by_cases g:∃y∈(rY F need l many).2,y.Node=(n:Int)
 ·left;obtain ⟨y,f,v⟩:=g;obtain ⟨m1,r⟩:=P.mem y f;obtain ⟨i,x,rfl⟩:=ky f;have o:=JV P.shares x;rw[v] at o m1 r;have A:kz F (n:Int)=F[n]:=zb p;have t:=hP.ZF _ m1;rw[A] at r t;have k:=vK t hn;rw[o];have d:∀a b:Int,(a,b)∈FJ F[n] need->0<=b->(rY F need l many).2[i].aL * b<=a:=λa b E G=>by
   have m:=k.fit _ E;dsimp only at m;have:(rY F need l many).2[i].aL * b<=dG F[n] need * b:=yAQ r G;omega
  intro c;rw[Bn]
  match c with
  |0=>exact d _ _ (by simp[FJ];exact .inl ⟨rfl,rfl⟩) hn.FY.1
  |1=>exact d _ _ (by simp[FJ];exact .inr (.inl ⟨rfl,rfl⟩)) hn.mem.1
  |2=>exact d _ _ (by simp[FJ];exact .inr (.inr (.inl ⟨rfl,rfl⟩))) hn.IW.1
  |_+3=>exact d _ _ (by simp[FJ];exact .inr (.inr (.inr ⟨rfl,rfl⟩))) hn.Ky.1
 grind [zr]
end
def Bw(q:iB)(u:Bf):iB:={ q with L:=q.L++[u] }
open Classical in
theorem Uh(q:iB)(u:Bf)(k t:Int):bE (Bw q u) k t=if Ed q.ay k t then bU else fo (fo (kz q.S.am k) (a_ q.L k t)) (jY u k t):=by
 unfold bE Bw;dsimp only;by_cases h:Ed q.ay k t
 ·simp_all
 ·rw[if_neg h,if_neg h,mZ,HM]
theorem mulR_le{n:Int}{need v:aE}(hn:0<=n)(a:aM need)(h:xE (mulR n need) v∨n=0)(b:aM v):xE (mulR n need) v:=by
 rcases h with h | h
 ·exact h
 ·intro c
  grind [vY,Bn]
theorem Ul{nodes:List (List bW)}{q:iB}{L:Nat}(hL:L<=200)(hq:ru q)(hp:PR nodes q L){cL a:Int}{sh:List cV}{need:aE}(hs:ba sh q.S.am.length)(hn:aM need)(hw:1<=a/\a<=65536)(A:q.aR<=cL)(Y:cL<=1099511627776)
  (d:∀(k:Nat)(h:k<q.S.am.length) t,cL<=t->t<cL+a->xE (mulR (dM sh k) need) (bE q k t)) :
  ∃b,zcj 5000 nodes cL sh need a q.aR=some (b,0)/\PR b (Bw q { bN:=cL,To:=cL+a,az:=need,ae:=sh }) (L+2):=by
 have i:=hp.len;have nn:=hq.spec.nodes.hi;have E:=hq.now;have sl:sh.length<=300:=by have:=jr hs (by omega);omega
 obtain ⟨Z,G,K⟩:=oW sh nodes.length sl;have:=K.2 (by simp_all);subst this;obtain ⟨r2,M,N⟩:=TR need;have:=N.2 hn;subst this;obtain ⟨r,e,O,P,p⟩:=Ca (by omega) hp.cL (by omega) (by simp_all) sl hn A (show cL<cL+a by omega) (by omega) λk hk t v ta tb Q=>by
  rw[(hp.iff hk (by omega)).1 Q]
  grind
 refine ⟨r.1,?_,?_⟩
 ·unfold zcj;rw[dW,if_neg (by simp_all),G,aD,if_neg (by simp),M,aD];have R:decide (a<1)=false:=by simp_all
  have U:decide (a > 65536)=false:=by simp_all
  dsimp only;rw[R,U,if_neg (by simp),wr (x:=cL+a) (by omega) (by omega),e,aD,O]
 ·refine ⟨by rw[P,i];rfl,⟨λk hk=>?_,λk hk W=>?_⟩,λk hk t X=>?_⟩
  ·have T:=p k (by omega) hk;exact ⟨T.ok,by have:=T.len;have:=(hp.cL.each k (by omega)).2;omega⟩
  ·have T:=p k (by omega) hk;have z:=(hp.cL.each k (by omega)).1.ne;rw[T.first z W,hp.cL.first k (by omega) z];rfl
  ·have n:k<nodes.length:=by omega
   have T:=p k n hk;have u:q.aR<=t:=X;have v:=T.val t _ (hp.val k n t u);rw[Uh];by_cases g:cL<=t/\t<cL+a
   ·rw[if_pos g] at v;have y:jY { bN:=cL,To:=cL+a,az:=need,ae:=sh } k t=mulR (dM sh k) need:=by unfold jY;simp_all
    rw[y];by_cases m:Ed q.ay k t
    ·rw[if_pos m];have o:bE q k t=bU:=by unfold bE;simp_all
     have f:=d k (by omega) t g.1 g.2;rw[o] at f v;have:fo bU (mulR (dM sh k) need)=bU:=dU λc=>by
      have h2:=f c;have h3:=gE (qL hs k) (vY.1 hn c)
      grind [Cq,NX,Bn]
     simp_all
    ·rw[if_neg m];have o:bE q k t=fo (kz q.S.am k) (a_ q.L k t):=by unfold bE;simp_all
     simp_all
   ·rw[if_neg g] at v;have y:jY { bN:=cL,To:=cL+a,az:=need,ae:=sh } k t=bU:=by unfold jY;grind
    rw[y];by_cases m:Ed q.ay k t
    ·rw[if_pos m];have o:bE q k t=bU:=by unfold bE;simp_all
     simp_all
    ·rw[if_neg m];have o:bE q k t=fo (kz q.S.am k) (a_ q.L k t):=by unfold bE;simp_all
     rw[o] at v;have:fo (fo (kz q.S.am k) (a_ q.L k t)) bU=fo (kz q.S.am k) (a_ q.L k t):=dU λc=>by simp only[Cq,NX];omega
     simp_all
end Go.Plain
end
section
namespace Go.Plain
open Go.Abs
abbrev K3:=Int×Int×Int
def QO(u v:K3):Prop:=u.1<v.1∨(u.1=v.1/\(u.2.1<v.2.1∨(u.2.1=v.2.1/\u.2.2<v.2.2)))
instance (u v:K3):Decidable (QO u v):=by unfold QO;infer_instance
theorem cmp1{N:Nat}(a b:Int):fG N a b=some (if a<b then -1 else if a > b then 1 else 0):=by
 simp only[fG,cmp_isNaN_int,Option.bind_some];simp;split
 ·rfl
 ·split <;> rfl
theorem cmp3{N:Nat}(E:4<N)(u v:K3):bM (ZU N ([u.1,u.2.1,u.2.2]:List Int) ([v.1,v.2.1,v.2.2]:List Int)) λr=>(r<0↔QO u v):=by
 obtain ⟨N,rfl⟩:∃M,N=M+5:=⟨N-5,by omega⟩;obtain ⟨a,b,c⟩:=u;obtain ⟨d,e,f⟩:=v;unfold ZU;have o:i64.wrap (0+1)=1:=rfl;have w1:i64.wrap (1+1)=2:=rfl;have w2:i64.wrap (2+1)=3:=rfl;have p:∀x y z:Int,aB [x,y,z] 0=some x:=λ_ _ _=>rfl;have t:∀x y z:Int,aB [x,y,z] 1=some y:=λ_ _ _=>rfl;have A:∀x y z:Int,aB [x,y,z] 2=some z:=λ_ _ _=>rfl;simp only[bz,List.length_cons,List.length_nil,cmp1,Option.bind_some,o,w1,w2,p,t,A,QO];simp;by_cases g:a<d
 ·rw[if_pos g];simp[aZ];omega
 ·rw[if_neg g];by_cases h:d<a
  ·rw[if_pos h];simp[aZ];omega
  ·rw[if_neg h];by_cases i:b<e
   ·rw[if_pos i];simp[aZ];omega
   ·rw[if_neg i];by_cases k:e<b
    ·rw[if_pos k];simp[aZ];omega
    ·rw[if_neg k];by_cases m:c<f
     ·rw[if_pos m];simp[aZ];omega
     ·rw[if_neg m];by_cases n:f<c
      ·rw[if_pos n];simp[aZ];omega
      ·rw[if_neg n];simp[aZ];omega
def RQ(p:List K3)(x:Int):K3:=p.getD x.toNat (0,0,0)
def Ss(p:List K3)(x:Int):Prop:=0<=x/\x<p.length
theorem Zj{p:List K3}{x:Int}(h:Ss p x):aB p x=some (RQ p x):=by obtain ⟨a,e⟩:=Eh h.1 h.2;rw[e,RQ,yAR,eI a];rfl
theorem Du{N:Nat}(d:4<N){p:List K3}{x y:Int}(e:Ss p x)(f:Ss p y) :
  bM ((aB p x).bind λa=>(aB p y).bind λb=>(ZU N ([a.1,a.2.1,a.2.2]:List Int) ([b.1,b.2.1,b.2.2]:List Int)).bind λr=>some r) λr=>(r<0↔QO (RQ p x) (RQ p y)):=by
 rw[Zj e,Zj f,aD,aD];exact (cmp3 d _ _).bind λr g=>aZ.2 g
theorem dQ{α:Type}{L R:List α}{y:α}{i:Int}(h:i=L.length):aB (L++y::R) i=some y:=by subst h;rw[bV (by simp)];simp
theorem jE{α:Type}{L R:List α}{y z:α}{i:Int}(h:i=L.length):(L++y::R).set i.toNat z=L++z::R:=by subst h;simp
theorem Bc{x y:Int}(h:x=y)(a:-9000000<=y)(b:y<9000000):i64.wrap x=y:=by rw[wr (by omega) (by omega)];exact h
theorem up_ok{N:Nat}{L V R:List Int}{y:Int}{k E:Int}(hk:k=L.length)(t:E=L.length+V.length)(O:V.length<N)(hs:(L++y::V++R).length<=1000) :
  bz (λh (d:Int×List Int)=>
     if (decide (d.1<E))=true then
      (aB d.2 (i64.wrap (d.1+1))).bind λe=>
      (aB d.2 d.1).bind λi=>
      (aB d.2 d.1).bind λu=>
      (aB (d.2.set d.1.toNat e) (i64.wrap (d.1+1))).bind λz=>
      h ((i64.wrap (d.1+1)),((d.2.set d.1.toNat e).set (i64.wrap (d.1+1)).toNat i))
     else
      some d.2) N (k,L++y::V++R)=some (L++V++y::R):=by
 apply bM.eq;simp only[AG,List.length_cons] at hs;refine lpM (I:=λx=>∃b g,x=((b.length:Int),b++y::g++R)/\b++g=L++V/\E=b.length+g.length) (m:=λx=>(E-x.1).toNat) (λx f A G=>?_) ⟨L,V,by rw[hk],rfl,t⟩ (by omega);obtain ⟨b,g,rfl,n,o⟩:=A;have p:=Gy List.length n;simp only[AG] at p;cases g with
 |nil=>simp only[List.length_nil] at o;rw[if_neg (by simp;omega),aZ,<-n];simp
 |cons v a=>
  simp only[List.length_cons] at o p;have w:i64.wrap ((b.length:Int)+1)=((b++[y]).length:Nat):=Bc (by simp) (by simp;omega) (by simp;omega);have K:b++y::v::a++R=(b++[y])++v::(a++R):=by simp
  have r:b++y::v::a++R=b++y::(v::a++R):=by simp
  have M:b++v::(v::a++R)=(b++[v])++v::(a++R):=by simp
  simp only;rw[if_pos (by simp;omega),w,show aB (b++y::v::a++R) ((b++[y]).length:Nat)=some v from by rw[K];exact dQ rfl,aD,
   show aB (b++y::v::a++R) (b.length:Int)=some y from by rw[r];exact dQ rfl,Option.bind_some,Option.bind_some,r,jE rfl,M,dQ (by simp),Option.bind_some,jE (by simp)]
  refine G _ ⟨b++[v],a,by simp,by rw[<-n];simp,by simp;omega⟩ (by simp;omega)
theorem dn_ok{N:Nat}{L V R:List Int}{y:Int}{k E:Int}(hk:k=L.length+V.length)(G:E=L.length)(K:V.length<N)(hs:(L++V++y::R).length<=1000) :
  bz (λi (a:Int×List Int)=>
      if (decide (a.1 > E))=true then
       (aB a.2 (i64.wrap (a.1-1))).bind λe=>
       (aB a.2 a.1).bind λn=>
       (aB a.2 a.1).bind λp=>
       (aB (a.2.set a.1.toNat e) (i64.wrap (a.1-1))).bind λr=>
       i ((i64.wrap (a.1-1)),((a.2.set a.1.toNat e).set (i64.wrap (a.1-1)).toNat n))
      else
       some a.2) N (k,L++V++y::R)=some (L++y::V++R):=by
 apply bM.eq;simp only[AG,List.length_cons] at hs;refine lpM (I:=λx=>∃g d,x=(((L++g).length:Int),L++g++y::d)/\g++d=V++R) (m:=λx=>(x.1-E).toNat) (λx f t u=>?_) ⟨V,R,by rw[hk];simp,rfl⟩ (by simp;omega);obtain ⟨g,d,rfl,h⟩:=t;have o:=Gy List.length h;simp only[AG] at o;rcases List.eq_nil_or_concat g with rfl | ⟨b,v,rfl⟩
 ·rw[if_neg (by simp;omega),aZ];simp at h;rw[h];simp
 ·simp only[yBR,AG,List.length_cons,List.length_nil] at o h ⊢;have w:i64.wrap (((L.length+(b.length+(0+1)):Nat):Int)-1)=((L++b).length:Nat):=Bc (by simp;omega) (by simp;omega) (by simp;omega);have z:L++(b++[v])++y::d=(L++b)++v::(y::d):=by simp
  have M:L++(b++[v])++y::d=(L++(b++[v]))++y::d:=rfl;have A:(L++(b++[v]))++v::d=(L++b)++v::(v::d):=by simp
  rw[if_pos (by simp;omega),w,show aB (L++(b++[v])++y::d) ((L++b).length:Nat)=some v from by rw[z];exact dQ rfl,aD,
   dQ (by simp),Option.bind_some,Option.bind_some,jE (by simp),A,dQ (by simp),Option.bind_some,jE (by simp)]
  refine u _ ⟨b,v::d,by simp,by rw[<-h];simp⟩ (by simp;omega)
theorem Yf{N:Nat}{L U M V R:List Int}{a b n:Int}(ha:a=L.length)(hb:b=L.length+U.length+M.length)(hn:n=U.length)(E:V.length=U.length)(hN:U.length<N)(hs:(L++U++M++V++R).length<=1000) :
  bz (λr (d:Int×List Int)=>
          if (decide (d.1<n))=true then
           (aB d.2 (i64.wrap (b+d.1))).bind λp=>
           (aB d.2 (i64.wrap (a+d.1))).bind λt=>
           (aB d.2 (i64.wrap (a+d.1))).bind λG=>
           (aB (d.2.set (i64.wrap (a+d.1)).toNat p) (i64.wrap (b+d.1))).bind λK=>
           r ((i64.wrap (d.1+1)),((d.2.set (i64.wrap (a+d.1)).toNat p).set (i64.wrap (b+d.1)).toNat t))
          else
           some d.2) N (0,L++U++M++V++R)=some (L++V++M++U++R):=by
 apply bM.eq;simp only[AG] at hs;refine lpM (I:=λx=>∃h k i o,x=((U.length:Int)-k.length,h++k++i++o++R)/\h++o++i++k++R=L++V++M++U++R/\o.length=k.length/\k.length<=U.length/\(h.length:Int)=a+U.length-k.length/\(h.length:Int)+k.length+i.length=b+U.length-k.length)
  (m:=λx=>(n-x.1).toNat) (λx f O P=>?_) ⟨L,U,M,V,by simp,rfl,E,by omega,by omega,by omega⟩ (by omega)
 obtain ⟨h,k,i,o,rfl,y,z,Q,T,W⟩:=O;cases k with
 |nil=>
  cases o with
  |nil=>rw[if_neg (by simp;omega),aZ,<-y]
  |cons=>simp at z
 |cons u e=>
  cases o with
  |nil=>simp at z
  |cons v g=>
   simp only[List.length_cons] at z Q T W;have X:=Gy List.length y;simp only[AG,List.length_cons] at X;have Y:i64.wrap (a+((U.length:Int)-((u::e).length:Nat)))=(h.length:Nat):=Bc (by simp;omega) (by omega) (by omega);have Z:i64.wrap (b+((U.length:Int)-((u::e).length:Nat)))=((h++u::e++i).length:Nat):=Bc (by simp;omega) (by simp;omega) (by simp;omega);have wc:i64.wrap (((U.length:Int)-((u::e).length:Nat))+1)=(U.length:Int)-(e.length:Nat):=Bc (by simp;omega) (by omega) (by omega);have e1:h++u::e++i++v::g++R=(h++u::e++i)++v::(g++R):=by simp
   have A:h++u::e++i++v::g++R=h++u::(e++i++v::g++R):=by simp
   have e3:h++v::(e++i++v::g++R)=(h++v::e++i)++v::(g++R):=by simp
   simp only;rw[if_pos (by simp;omega),Y,Z,wc,show aB (h++u::e++i++v::g++R) ((h++u::e++i).length:Nat)=some v from by rw[e1];exact dQ rfl,aD,
    show aB (h++u::e++i++v::g++R) (h.length:Nat)=some u from by rw[A];exact dQ rfl,Option.bind_some,Option.bind_some,A,jE rfl,e3,dQ (by simp),Option.bind_some,jE (by simp)]
   refine P _ ⟨h++[v],e,i++[u],g,by simp,by rw[<-y];simp,by omega,by omega,by simp;omega,by simp;omega⟩ (by simp;omega)
theorem YE{R:Type}{b:(Int×Int->Option R)->Int×Int->Option R}{Q:R->Prop}{lo a N:Nat}(G:Nat->Prop)(h:lo<=a)(v:a<N)
  (hs:∀f (s r:Nat),lo<=s->s<r->r<=a->(G ((s+r) / 2)->bM (f (((((s+r) / 2:Nat):Int)+1),(r:Int))) Q)->(¬G ((s+r) / 2)->bM (f ((s:Int),(((s+r) / 2:Nat):Int))) Q)->bM (b f ((s:Int),(r:Int))) Q)
  (o:∀f (s:Nat),lo<=s->s<=a->(s=lo∨G (s-1))->(s=a∨¬G s)->bM (b f ((s:Int),(s:Int))) Q):bM (bz b N ((lo:Int),(a:Int))) Q:=by
 refine lpM (I:=λx=>∃s r:Nat,x=((s:Int),(r:Int))/\lo<=s/\s<=r/\r<=a/\(s=lo∨G (s-1))/\(r=a∨¬G r)) (m:=λx=>(x.2-x.1).toNat) (λx f p i=>?_) ⟨lo,a,rfl,by omega,h,by omega,.inl rfl,.inl rfl⟩ (by simp;omega);obtain ⟨s,r,rfl,d,t,e,k,n⟩:=p;rcases XI t with u | rfl
 ·refine hs f s r d u e (λg=>i _ ⟨(s+r) / 2+1,r,by simp,by omega,by omega,e,.inr (by simpa using g),n⟩ (by simp;omega)) (λg=>i _ ⟨s,(s+r) / 2,rfl,d,by omega,by omega,k,.inr g⟩ (by simp;omega))
 ·exact o f s d e k n
end Go.Plain
end
section
namespace Go.Plain
open Go.Abs
theorem pH{R:Type}{a b:Nat}{o:Option R}(h:a=b):BN a b o=o:=by subst h;simp[BN]
theorem rot_ok {N:Nat} {L U V R:List Int} {m i j:Int} (hm:m=L.length+U.length) (hi:i=U.length) (hj:j=V.length) (hU:0<U.length) (hV:0<V.length) (hN:U.length+V.length<N) (hs:(L++U++V++R).length≤1000) :
    bz (fun u (d:Int×Int×List Int)=>
               if (d.1 != d.2.1)=true then
                 if (decide (d.1 > d.2.1))=true then
                   (
                     bz (fun P (k:Int×List Int)=>
                       if (decide (k.1<d.2.1))=true then
                         (aB k.2 (i64.wrap (m+k.1))).bind fun v=>
                         (aB k.2 (i64.wrap ((i64.wrap (m-d.1))+k.1))).bind fun Q=>
                         (aB k.2 (i64.wrap ((i64.wrap (m-d.1))+k.1))).bind fun aa=>
                         (aB (k.2.set (i64.wrap ((i64.wrap (m-d.1))+k.1)).toNat v) (i64.wrap (m+k.1))).bind fun ab=>
                         P ((i64.wrap (k.1+1)),((k.2.set (i64.wrap ((i64.wrap (m-d.1))+k.1)).toNat v).set (i64.wrap (m+k.1)).toNat Q))
                       else
                         some k.2) N (0,d.2.2)).bind fun y=>
                   BN d.2.2.length y.length <|
                   u ((i64.wrap (d.1-d.2.1)),d.2.1,y)
                 else
                   (
                     bz (fun T (o:Int×List Int)=>
                       if (decide (o.1<d.1))=true then
                         (aB o.2 (i64.wrap ((i64.wrap ((i64.wrap (m+d.2.1))-d.1))+o.1))).bind fun z=>
                         (aB o.2 (i64.wrap ((i64.wrap (m-d.1))+o.1))).bind fun W=>
                         (aB o.2 (i64.wrap ((i64.wrap (m-d.1))+o.1))).bind fun ad=>
                         (aB (o.2.set (i64.wrap ((i64.wrap (m-d.1))+o.1)).toNat z) (i64.wrap ((i64.wrap ((i64.wrap (m+d.2.1))-d.1))+o.1))).bind fun af=>
                         T ((i64.wrap (o.1+1)),((o.2.set (i64.wrap ((i64.wrap (m-d.1))+o.1)).toNat z).set (i64.wrap ((i64.wrap ((i64.wrap (m+d.2.1))-d.1))+o.1)).toNat W))
                       else
                         some o.2) N (0,d.2.2)).bind fun A=>
                   BN d.2.2.length A.length <|
                   u (d.1,(i64.wrap (d.2.1-d.1)),A)
               else
                 (
                   bz (fun X (p:Int×List Int)=>
                     if (decide (p.1<d.1))=true then
                       (aB p.2 (i64.wrap (m+p.1))).bind fun E=>
                       (aB p.2 (i64.wrap ((i64.wrap (m-d.1))+p.1))).bind fun Y=>
                       (aB p.2 (i64.wrap ((i64.wrap (m-d.1))+p.1))).bind fun ak=>
                       (aB (p.2.set (i64.wrap ((i64.wrap (m-d.1))+p.1)).toNat E) (i64.wrap (m+p.1))).bind fun an=>
                       X ((i64.wrap (p.1+1)),((p.2.set (i64.wrap ((i64.wrap (m-d.1))+p.1)).toNat E).set (i64.wrap (m+p.1)).toNat Y))
                     else
                       some p.2) N (0,d.2.2)).bind fun Z=>
                 some Z) N (i,j,L++U++V++R)=some (L++V++U++R):=by
  apply bM.eq
  simp only [AG] at hs
  refine lpM (I:=fun x=>∃r h g t,x=((h.length:Int),(g.length:Int),r++h++g++t)∧r++g++h++t=L++V++U++R∧m=r.length+h.length∧0<h.length∧0<g.length∧h.length≤U.length∧g.length≤V.length) (m:=fun x=>(x.1+x.2.1).toNat) (fun x f hI hr=>?_) ⟨L,U,V,R,by rw [hi,hj],rfl,hm,hU,hV,by omega,by omega⟩ (by simp; omega)
  obtain ⟨r,h,g,t,rfl,O,h2,h3,h4,h5,h6⟩:=hI
  have hl:=Gy List.length O
  simp only [AG] at hl
  have wa:i64.wrap (m-(h.length:Int))=(r.length:Int):=Bc (by omega) (by omega) (by omega)
  simp only [wa]
  by_cases e:h.length=g.length
  · rw [if_neg (by simp [e])]
    have:=Yf (N:=N) (L:=r) (U:=h) (M:=[]) (V:=g) (R:=t) (a:=r.length) (b:=m) (n:=h.length) rfl (by simp; omega) rfl e.symm (by omega) (by simp; omega)
    simp only [Ep] at this
    rw [this,Option.bind_some,aZ,O]
  · rw [if_pos (by simp; omega)]
    by_cases e2:g.length<h.length
    · rw [if_pos (by simp; omega)]
      have G:h=h.take g.length++h.drop g.length:=(NW _ _).symm
      have:=Yf (N:=N) (L:=r) (U:=h.take g.length) (M:=h.drop g.length) (V:=g) (R:=t) (a:=r.length) (b:=m) (n:=g.length) rfl (by simp; omega) (by simp; omega) (by simp; omega) (by simp; omega) (by simp; omega)
      rw [BL r (h.take _),←G] at this
      rw [this,Option.bind_some,pH (by simp; omega),show i64.wrap ((h.length:Int)-g.length)=((h.drop g.length).length:Int) from Bc (by simp; omega) (by omega) (by simp; omega)]
      refine hr _ ⟨r++g,h.drop g.length,h.take g.length,t,by simp; omega,?_,by simp; omega,by simp; omega,by simp; omega,by simp; omega,by simp; omega⟩ (by simp; omega)
      rw [←O]
      conv=>rhs; rw [G]
      simp
    · rw [if_neg (by simp; omega)]
      have K:g=g.take (g.length-h.length)++g.drop (g.length-h.length):=(NW _ _).symm
      have wb:i64.wrap (m+(g.length:Int))=m+g.length:=Bc rfl (by omega) (by omega)
      have wc:i64.wrap (m+(g.length:Int)-h.length)=m+g.length-h.length:=Bc rfl (by omega) (by omega)
      have:=Yf (N:=N) (L:=r) (U:=h) (M:=g.take (g.length-h.length)) (V:=g.drop (g.length-h.length)) (R:=t) (a:=r.length) (b:=m+g.length-h.length) (n:=h.length) rfl (by simp; omega) rfl (by simp; omega) (by omega) (by simp; omega)
      rw [BL (r++h) (g.take _),←K] at this
      simp only [wb,wc]
      rw [this,Option.bind_some,pH (by simp; omega),show i64.wrap ((g.length:Int)-h.length)=((g.take (g.length-h.length)).length:Int) from Bc (by simp; omega) (by omega) (by simp; omega)]
      refine hr _ ⟨r,g.drop (g.length-h.length),g.take (g.length-h.length),h++t,by simp; omega,?_,by simp; omega,by simp; omega,by simp; omega,by simp; omega,by simp; omega⟩ (by simp; omega)
      rw [←O]
      conv=>rhs; rw [K]
      simp
end Go.Plain
end
section
namespace Go.Plain
open Go.Abs
def BM(p:List K3)(u v:Int):Prop:=¬QO (RQ p v) (RQ p u)
def yJ(p:List K3)(l:List Int):Prop:=l.Pairwise (BM p)
theorem BM.trans{p:List K3}{a b c:Int}(h:BM p a b)(i:BM p b c):BM p a c:=by unfold BM QO at *;omega
theorem BM.refl{p:List K3}{a:Int}:BM p a a:=by unfold BM QO;omega
theorem QO.le{p:List K3}{a b:Int}(h:QO (RQ p a) (RQ p b)):BM p a b:=by unfold BM QO at *;omega
theorem Sp{p:List K3}{l:List Int}(h:yJ p l){i j:Nat}(a:i<=j)(hj:j<l.length):BM p (l.getD i 0) (l.getD j 0):=by
 rcases XI a with b | rfl
 ·have:=yAZ.1 h i j (by omega) hj b;simpa[yAR,hj,show i<l.length by omega] using this
 ·exact .refl
theorem Dv{p:List K3}{l:List Int}(h:yJ p l){t:Nat}(f:t<=l.length){y:Int}(a:t=0∨BM p (l.getD (t-1) 0) y):∀u∈l.take t,BM p u y:=λu b=>by
 obtain ⟨i,d,rfl⟩:=ky b;simp only[Cs] at d;rcases a with rfl | a
 ·omega
 ·have:=Sp h (i:=i) (j:=t-1) (by omega) (by omega);rw[Sn];have e:l.getD i 0=l[i]'(by omega):=by simp[yAR,show i<l.length by omega]
  rw[<-e];exact this.trans a
theorem Ek{p:List K3}{l:List Int}(h:yJ p l){t:Nat}{y:Int}(a:l.length<=t∨BM p y (l.getD t 0)):∀u∈l.drop t,BM p y u:=λu b=>by
 obtain ⟨i,d,rfl⟩:=ky b;simp only[yBK] at d;rcases a with a | a
 ·omega
 ·have:=Sp h (i:=t) (j:=t+i) (by omega) (by omega);rw[yBT];have e:l.getD (t+i) 0=l[t+i]'(by omega):=by simp[yAR,show t+i<l.length by omega]
  rw[<-e];exact a.trans this
theorem yJ.Lk{p:List K3}{l:List Int}(h:yJ p l)(t:Nat):yJ p (l.take t):=List.Pairwise.sublist (List.take_sublist _ _) h
theorem yJ.NJ{p:List K3}{l:List Int}(h:yJ p l)(t:Nat):yJ p (l.drop t):=List.Pairwise.sublist (List.drop_sublist _ _) h
theorem Q_{p:List K3}{l:List Int}(h:yJ p l){t:Nat}(f:t<=l.length){y:Int}(g:t=0∨BM p (l.getD (t-1) 0) y)(i:l.length<=t∨BM p y (l.getD t 0)):yJ p (l.take t++y::l.drop t):=by
 have a:=Dv h f g;have b:=Ek h i;refine Od.2 ⟨h.Lk t,yBl.2 ⟨b,h.NJ t⟩,λu e v d=>?_⟩;rcases gn.1 d with rfl | d
 ·exact a u e
 ·exact (a u e).trans (b v d)
theorem jR{L B R:List Int}{t k:Nat}(hk:k=L.length+t)(a:t<B.length):(L++B++R).getD k 0=B.getD t 0:=by subst hk;simp only[yAR];rw[BL,NZ (by omega),HE (by omega),yB5]
theorem Kq{l:List Int}{k:Nat}{i:Int}(h:i=(k:Int))(hk:k<l.length):aB l i=some (l.getD k 0):=by subst h;rw[bV hk];simp[yAR,hk]
theorem De{p:List K3}{l:List Int}(h:∀x∈l,Ss p x){k:Nat}(hk:k<l.length):Ss p (l.getD k 0):=by
 have:l.getD k 0=l[k]:=by simp[yAR,hk]
 rw[this];exact h _ (bC hk)
theorem DW{X R:Type}{K:X->Option R}{J:(X->Option R)->Option R}{Q:R->Prop}(Fy:X->Prop)(a:∀k,(∀x,Fy x->bM (k x) Q)->bM (J k) Q)(b:∀x,Fy x->bM (K x) Q):bM (jn K J) Q:=a K b
set_option maxHeartbeats 4000000 in
theorem NH{p:List K3}:∀(N:Nat)(P A B S:List Int)(a m b:Int),A≠[]->B≠[]->(P++A++B++S).length<=1000->(∀x∈P++A++B++S,Ss p x)->A.length+B.length+1100<=N ->
  a=P.length->m=P.length+A.length->b=P.length+A.length+B.length ->
  bM (za8 N (P++A++B++S) a m b p) λr=>∃C,r=P++C++S/\C.Perm (A++B)/\(yJ p A->yJ p B->yJ p C):=by
 intro N;induction N with
 |zero=>intro P A B S a m b _ _ _ _ h;omega
 |succ N ih=>
  intro P A B S a m b hA hB hl M hN ha hm hb;have a1:0<A.length:=Th.2 hA;have a2:0<B.length:=Th.2 hB;have ak:=hl;simp only[AG] at ak;show bM (if (i64.wrap (m-a) == 1)=true then _ else _) _;rw[bp];have w1:i64.wrap (m-a)=A.length:=Bc (by omega) (by omega) (by omega);have w2:i64.wrap (b-m)=B.length:=Bc (by omega) (by omega) (by omega);rw[w1];refine ⟨λU=>?_,λU=>?_⟩
  ·
   obtain ⟨y,rfl⟩:∃y,A=[y]:=by
    match A,U with
    |[y],_=>exact ⟨y,rfl⟩
    |[],U=>simp at U
    |_::_::_,U=>simp at U;omega
   have hy:aB (P++[y]++B++S) a=some y:=by rw[show P++[y]++B++S=P++y::(B++S) by simp];exact dQ ha
   have an:Ss p y:=M y (by simp);simp only[List.length_cons,List.length_nil] at hm hb ak hN;obtain ⟨z,rfl⟩:∃z:Nat,m=z:=⟨P.length+1,by omega⟩;obtain ⟨Q,rfl⟩:∃Q:Nat,b=Q:=⟨P.length+1+B.length,by omega⟩;refine YE (λh=>QO (RQ p ((P++[y]++B++S).getD h 0)) (RQ p y)) (by omega) (by omega) (λf s r W X o hg hn=>?_) (λf s W X o E=>?_)
   ·have O:(s+r) / 2<(P++[y]++B++S).length:=by simp;omega
    simp only;rw[if_pos (by simp;omega),mid (by omega),Kq rfl O,aD,hy,aD,Bc (x:=(((s+r) / 2:Nat):Int)+1) rfl (by omega) (by omega)];refine (Du (by omega) (De M O) an).bind λr T=>?_;rw[bp];exact ⟨λh=>hg (T.1 (by simpa using h)),λh=>hn λg=>h (by simpa using T.2 g)⟩
   ·simp only;rw[if_neg (by simp)];have ht:s-z<=B.length:=by omega
    have ax:B=B.take (s-z)++B.drop (s-z):=(NW _ _).symm;have e:P++[y]++B++S=P++y::B.take (s-z)++(B.drop (s-z)++S):=by simp only[BL,List.cons_append,List.nil_append];rw[<-BL (List.take _ _) (List.drop _ _) S,NW]
    rw[Bc (x:=(s:Int)-1) (y:=(P.length:Int)+(B.take (s-z)).length) (by simp;omega) (by omega) (by simp;omega)]
    conv in (P++[y]++B++S)=>rw[e]
    rw[up_ok ha rfl (by simp;omega) (by simp;omega),aZ];refine ⟨B.take (s-z)++y::B.drop (s-z),by simp,?_,λ_ hb=>Q_ hb ht ?_ ?_⟩
    ·conv=>rhs;rw[ax]
     exact List.perm_middle
    ·rcases o with o | o
     ·left;omega
     ·by_cases Y:s-z=0
      ·exact .inl Y
      ·right;rw[jR (L:=P++[y]) (B:=B) (R:=S) (t:=s-z-1) (by simp;omega) (by omega)] at o;exact o.le
    ·rcases E with E | E
     ·left;omega
     ·by_cases Y:B.length<=s-z
      ·exact .inl Y
      ·right;rw[jR (L:=P++[y]) (B:=B) (R:=S) (t:=s-z) (by simp;omega) (by omega)] at E;exact E
  ·rw[bp,w2];refine ⟨λh2=>?_,λh2=>?_⟩
   ·
    obtain ⟨y,rfl⟩:∃y,B=[y]:=by
     match B,h2 with
     |[y],_=>exact ⟨y,rfl⟩
     |[],U=>simp at U
     |_::_::_,U=>simp at U;omega
    have hy:aB (P++A++[y]++S) m=some y:=by rw[show P++A++[y]++S=(P++A)++y::S by simp];exact dQ (by simp;omega)
    have an:Ss p y:=M y (by simp);simp only[List.length_cons,List.length_nil] at hm hb ak hN;obtain ⟨K,rfl⟩:∃K:Nat,a=K:=⟨P.length,by omega⟩;obtain ⟨z,rfl⟩:∃z:Nat,m=z:=⟨P.length+A.length,by omega⟩;refine YE (λh=>¬QO (RQ p y) (RQ p ((P++A++[y]++S).getD h 0))) (by omega) (by omega) (λf s r W X o hg hn=>?_) (λf s W X o E=>?_)
    ·have O:(s+r) / 2<(P++A++[y]++S).length:=by simp;omega
     simp only;rw[if_pos (by simp;omega),mid (by omega),hy,aD,Kq rfl O,aD,Bc (x:=(((s+r) / 2:Nat):Int)+1) rfl (by omega) (by omega)];refine (Du (by omega) an (De M O)).bind λr T=>?_;rw[bp];refine ⟨λh=>hg λg=>?_,λh=>hn λg=>?_⟩
     ·have:=T.2 g;simp at h;omega
     ·simp at h;exact g (T.1 h)
    ·simp only;rw[if_neg (by simp)];have ht:s-K<=A.length:=by omega
     have av:A=A.take (s-K)++A.drop (s-K):=(NW _ _).symm;have e:P++A++[y]++S=(P++A.take (s-K))++A.drop (s-K)++y::S:=by
      conv=>lhs;rw[av]
      simp
     conv in (P++A++[y]++S)=>rw[e]
     rw[dn_ok (by simp;omega) (by simp;omega) (by simp;omega) (by simp;omega),aZ];refine ⟨A.take (s-K)++y::A.drop (s-K),by simp,?_,λhb _=>Q_ hb ht ?_ ?_⟩
     ·conv=>rhs;rw[av]
      simp only[BL];exact List.Perm.append_left _ (yBS (l₁:=[y]))
     ·rcases o with o | o
      ·left;omega
      ·by_cases Y:s-K=0
       ·exact .inl Y
       ·right;rw[show P++A++[y]++S=P++A++([y]++S) by simp,jR (L:=P) (B:=A) (t:=s-K-1) (by omega) (by omega)] at o;exact o
     ·rcases E with E | E
      ·left;omega
      ·by_cases Y:A.length<=s-K
       ·exact .inl Y
       ·right;rw[show P++A++[y]++S=P++A++([y]++S) by simp,jR (L:=P) (B:=A) (t:=s-K) (by omega) (by omega)] at E;exact (Classical.not_not.1 E).le
   ·
    have av:2<=A.length:=by
     rcases rZ A.length 2 with h | h
     ·exact absurd (show ((A.length:Int) == 1)=true by simp;omega) U
     ·exact h
    have ax:2<=B.length:=by
     rcases rZ B.length 2 with h | h
     ·exact absurd (show ((B.length:Int) == 1)=true by simp;omega) h2
     ·exact h
    obtain ⟨K,rfl⟩:∃K:Nat,a=K:=⟨P.length,by omega⟩;obtain ⟨z,rfl⟩:∃z:Nat,m=z:=⟨P.length+A.length,by omega⟩;obtain ⟨Q,rfl⟩:∃Q:Nat,b=Q:=⟨P.length+A.length+B.length,by omega⟩;have ab:=mid (i:=K) (j:=Q) (by omega);obtain ⟨G,a0⟩:∃G,G=(K+Q) / 2:=⟨_,rfl⟩;rw[<-a0] at ab;simp only[ab];have wn:i64.wrap ((G:Int)+(z:Int))=((G+z:Nat):Int):=Bc (by simp) (by omega) (by omega);simp only[wn];have a5:(P++A++B++S).length=P.length+A.length+B.length+S.length:=by simp;omega
    refine DW (λx=>∃lo hi:Nat,x=((lo:Int),(hi:Int))/\lo<=hi/\hi<=G/\hi<=z/\K<=lo/\G+z<=Q+lo/\(lo=K∨G+z=Q+lo)/\(hi=z∨hi=G)) (λk hk=>?_) ?_
    ·rw[bp];refine ⟨λh=>hk _ ⟨G+z-Q,G,?_,?_⟩,λh=>hk _ ⟨K,z,rfl,?_⟩⟩
     ·rw[Bc (x:=((G+z:Nat):Int)-(Q:Int)) (y:=((G+z-Q:Nat):Int)) (by simp at h;omega) (by omega) (by omega)]
     ·simp at h;omega
     ·simp at h;omega
    ·rintro _ ⟨lo,hi,rfl,q1,q2,q3,q4,q5,q6,q7⟩;refine YE (λc=>¬QO (RQ p ((P++A++B++S).getD (G+z-1-c) 0)) (RQ p ((P++A++B++S).getD c 0))) q1 (by omega) (λf s r W X o hg hn=>?_) (λf s W X o E=>?_)
     ·have O:(s+r) / 2<(P++A++B++S).length:=by omega
      have ad:G+z-1-(s+r) / 2<(P++A++B++S).length:=by omega
      have wp:i64.wrap (((G+z:Nat):Int)-1)=((G+z-1:Nat):Int):=Bc (by omega) (by omega) (by omega);simp only;rw[if_pos (by simp;omega),mid (by omega),wp,Bc (x:=((G+z-1:Nat):Int)-(((s+r) / 2:Nat):Int)) (y:=((G+z-1-(s+r) / 2:Nat):Int)) (by omega) (by omega) (by omega),Kq rfl ad,aD,Kq rfl O,aD,Bc (x:=(((s+r) / 2:Nat):Int)+1) rfl (by omega) (by omega)];refine (Du (by omega) (De M ad) (De M O)).bind λr T=>?_;rw[bp];refine ⟨λh=>hg λg=>?_,λh=>hn λg=>?_⟩
      ·have:=T.2 g;simp at h;omega
      ·simp at h;exact g (T.1 h)
     ·simp only;rw[if_neg (by simp)];have we:i64.wrap (((G+z:Nat):Int)-(s:Int))=((G+z-s:Nat):Int):=Bc (by omega) (by omega) (by omega);simp only[we];obtain ⟨d,a6⟩:∃d,d=s-K:=⟨_,rfl⟩;obtain ⟨n,a7⟩:∃n,n=G-s:=⟨_,rfl⟩;have la:d<=A.length:=by omega
      have lb:n<=B.length:=by omega
      have eA:A=A.take d++A.drop d:=(NW _ _).symm;have eB:B=B.take n++B.drop n:=(NW _ _).symm;have a8:(A.take d).length=d:=by simp;omega
      have a9:(A.drop d).length=A.length-d:=by simp
      have bb:(B.take n).length=n:=by simp;omega
      have bc:(B.drop n).length=B.length-n:=by simp
      have f1:d=0∨B.length<=n∨BM p (A.getD (d-1) 0) (B.getD n 0):=by
       by_cases Y:d=0
       ·exact .inl Y
       by_cases Z:B.length<=n
       ·exact .inr (.inl Z)
       rcases o with o | o
       ·omega
       rw[jR (L:=P++A) (B:=B) (R:=S) (t:=n) (by simp;omega) (by omega),show P++A++B++S=P++A++(B++S) by simp,jR (L:=P) (B:=A) (t:=d-1) (by omega) (by omega)] at o;exact .inr (.inr o)
      have f2:n=0∨A.length<=d∨BM p (B.getD (n-1) 0) (A.getD d 0):=by
       by_cases Y:n=0
       ·exact .inl Y
       by_cases Z:A.length<=d
       ·exact .inr (.inl Z)
       rcases E with E | E
       ·omega
       rw[jR (L:=P++A) (B:=B) (R:=S) (t:=n-1) (by simp;omega) (by omega),show P++A++B++S=P++A++(B++S) by simp,jR (L:=P) (B:=A) (t:=d) (by omega) (by omega)] at E;exact .inr (.inr (Classical.not_not.1 E).le)
      refine DW (λx=>x=P++A.take d++B.take n++A.drop d++B.drop n++S) (λk hk=>?_) ?_
      ·rw[bp];refine ⟨λh=>?_,λh=>hk _ ?_⟩
       ·simp only[bH,br] at h;have e:P++A++B++S=(P++A.take d)++A.drop d++B.take n++(B.drop n++S):=by
         simp only[BL];rw[<-BL (B.take n) (B.drop n) S,NW,<-BL (A.take d) (A.drop d),NW]
        conv in (P++A++B++S)=>rw[e]
        rw[rot_ok (by simp;omega) (by rw[Bc rfl (by omega) (by omega)];omega) (by rw[Bc rfl (by omega) (by omega)];omega) (by omega) (by omega) (by omega) (by simp;omega),aD,pH (by rw[e];simp;omega)];exact hk _ (by simp)
       ·simp only[bH,br,yBE] at h;rcases h with h | h
        ·have:A.drop d=[]:=by rw[<-yAV];omega
         have e2:A.take d=A:=by rw[this] at eA;simpa using eA.symm
         rw[this,e2]
         conv=>lhs;rw[eB]
         simp
        ·have:B.take n=[]:=by rw[<-yAV];omega
         have e2:B.drop n=B:=by rw[this] at eB;simpa using eB.symm
         rw[this,e2]
         conv=>lhs;rw[eA]
         simp
      ·rintro _ rfl;refine DW (λx=>∃C1,x=P++C1++A.drop d++B.drop n++S/\C1.Perm (A.take d++B.take n)/\(yJ p (A.take d)->yJ p (B.take n)->yJ p C1)) (λk hk=>?_) ?_
       ·rw[bp];refine ⟨λh=>?_,λh=>hk _ ⟨A.take d++B.take n,by simp,.refl _,λZ h4=>?_⟩⟩
        ·simp only[bH,br] at h;have e:P++A.take d++B.take n++A.drop d++B.drop n++S=P++A.take d++B.take n++(A.drop d++B.drop n++S):=by simp
         have r:=ih P (A.take d) (B.take n) (A.drop d++B.drop n++S) K s G (by rw[<-Th];omega) (by rw[<-Th];omega) (by rw[<-e];simp;omega) (λx hx=>M x (by
          rw[<-e] at hx;simp only[nj] at hx ⊢;rcases hx with ((((h | h) | h) | h) | h) | h
          ·exact .inl (.inl (.inl h))
          ·exact .inl (.inl (.inr (Qo h)))
          ·exact .inl (.inr (Qo h))
          ·exact .inl (.inl (.inr (yBh h)))
          ·exact .inl (.inr (yBh h))
          ·exact .inr h)) (by omega) ha (by omega) (by omega)
         rw[<-e] at r;refine r.bind λr T=>?_;obtain ⟨C,rfl,Z,h4⟩:=T;have h5:=Z.length_eq;simp only[AG] at h5;rw[pH (by simp;omega)];exact hk _ ⟨C,by simp,Z,h4⟩
        ·simp only[bH,br,yBE] at h;rcases h with h | h
         ·have:A.take d=[]:=by rw[<-yAV];omega
          rw[this];exact h4
         ·have:B.take n=[]:=by rw[<-yAV];omega
          rw[this,Ep];exact Z
       ·rintro _ ⟨C1,rfl,g1,g2⟩;have lC:=g1.length_eq;simp only[AG] at lC;have aa:∀C2:List Int,C2.Perm (A.drop d++B.drop n)->yJ p A->yJ p B->∀u∈C1,∀v∈C2,BM p u v:=λC2 g3 sA sB u hu v M=>by
         have hu:=nj.1 (g1.mem_iff.1 hu);have M:=nj.1 (g3.mem_iff.1 M);rcases hu with hu | hu <;> rcases M with M | M
         ·have:=Od.1 (eA▸sA:yJ p (A.take d++A.drop d));exact this.2.2 u hu v M
         ·rcases f1 with f1 | f1 | f1
          ·subst f1;simp at hu
          ·rw[yBn f1] at M;simp at M
          ·exact Ek sB (.inr (Dv sA la (.inr f1) u hu)) v M
         ·rcases f2 with f2 | f2 | f2
          ·rw[f2] at hu;simp at hu
          ·rw[yBn f2] at M;simp at M
          ·exact Ek sA (.inr (Dv sB lb (.inr f2) u hu)) v M
         ·have:=Od.1 (eB▸sB:yJ p (B.take n++B.drop n));exact this.2.2 u hu v M
        have af:∀C2:List Int,C2.Perm (A.drop d++B.drop n)->(C1++C2).Perm (A++B):=λC2 g3=>by
         refine (List.Perm.append g1 g3).trans ?_
         conv=>rhs;rw[eA,eB]
         simp only[BL];refine List.Perm.append_left _ ?_;rw[<-BL,<-BL (A.drop d)];exact List.Perm.append_right _ yBS
        rw[bp];refine ⟨λh=>?_,λh=>aZ.2 ⟨C1++(A.drop d++B.drop n),by simp,af _ (.refl _),λsA sB=>?_⟩⟩
        ·simp only[bH,br] at h;have e:P++C1++A.drop d++B.drop n++S=(P++C1)++A.drop d++B.drop n++S:=rfl;have r:=ih (P++C1) (A.drop d) (B.drop n) S G ((G+z-s:Nat):Int) Q (by rw[<-Th];omega) (by rw[<-Th];omega) (by simp;omega) (λx hx=>M x (by
          simp only[nj] at hx ⊢;rcases hx with (((h | h) | h) | h) | h
          ·exact .inl (.inl (.inl h))
          ·rcases nj.1 (g1.mem_iff.1 h) with h | h
           ·exact .inl (.inl (.inr (Qo h)))
           ·exact .inl (.inr (Qo h))
          ·exact .inl (.inl (.inr (yBh h)))
          ·exact .inl (.inr (yBh h))
          ·exact .inr h)) (by omega) (by simp;omega) (by simp;omega) (by simp;omega)
         refine r.bind λr T=>?_;obtain ⟨C2,rfl,Z,h4⟩:=T;refine aZ.2 ⟨C1++C2,by simp,af _ Z,λsA sB=>?_⟩;exact Od.2 ⟨g2 (sA.Lk _) (sB.Lk _),h4 (sA.NJ _) (sB.NJ _),aa _ Z sA sB⟩
        ·refine Od.2 ⟨g2 (sA.Lk _) (sB.Lk _),?_,aa _ (.refl _) sA sB⟩;simp only[bH,br,yBE] at h;rcases h with h | h
         ·have:A.drop d=[]:=by rw[<-yAV];omega
          rw[this];exact sB.NJ _
         ·have:B.drop n=[]:=by rw[<-yAV];omega
          rw[this,Ep];exact sA.NJ _
end Go.Plain
end
section
namespace Go.Plain
open Go.Abs
theorem rI{X R:Type}{b:(X->Option R)->X->Option R}{Q:R->Prop}{n:Nat}{x:X}(hn:0<n)(h:∀f,f=bz b (n-1)->bM (b f x) Q):bM (bz b n x) Q:=by obtain ⟨k,rfl⟩:∃k,n=k+1:=⟨n-1,by omega⟩;exact h _ rfl
theorem QI{p:List K3}{N:Nat}{P A S:List Int}{a E:Int}(ha:a=P.length)(hE:E=P.length+A.length)(hN:1100<=N)(hl:(P++A++S).length<=1000)(O:∀x∈P++A++S,Ss p x) :
  bM (bz (λf8 (Q : Int × List Int)=>
         if (decide (Q.1<E))=true then
          bz (λad (d:Int×List Int)=>
           jn (λ(af:Bool)=>
            if af=true then
             (aB d.2 (i64.wrap (d.1-1))).bind λR=>
             (aB d.2 d.1).bind λak=>
             (aB d.2 d.1).bind λa6=>
             (aB (d.2.set d.1.toNat R) (i64.wrap (d.1-1))).bind λa7=>
             ad ((i64.wrap (d.1-1)),((d.2.set d.1.toNat R).set (i64.wrap (d.1-1)).toNat ak))
            else
             f8 ((i64.wrap (Q.1+1)),d.2)) λW=>
           if (decide (d.1 > a))=true then
           (aB d.2 d.1).bind λan=>
           (aB d.2 (i64.wrap (d.1-1))).bind λav=>
           (
            (aB p an).bind λt=>
            (aB p av).bind λG=>
            (ZU N ([t.1,t.2.1,t.2.2]:List Int) ([G.1,G.2.1,G.2.2]:List Int)).bind λax=>
            some ax).bind λa0=>
           W (decide (a0<0))
           else
           W false) N (Q.1,Q.2)
         else
          some Q.2) N ((i64.wrap (a+1)),P++A++S)) λr=>∃C,r=P++C++S/\C.Perm A/\yJ p C:=by
 have a1:=hl;simp only[AG] at a1;rw[Bc (x:=a+1) (y:=a+1) rfl (by omega) (by omega)];refine lpM (I:=λx=>∃C T,x.2=P++C++T++S/\(C++T).Perm A/\yJ p C/\x.1=a+(if A=[] then 1 else (C.length:Int))/\(A≠[]->0<C.length)) (m:=λx=>(E+1-x.1).toNat) (λx f hI hr=>?_) ?_ (by simp;omega)
 ·obtain ⟨i,row⟩:=x;obtain ⟨C,T,rfl,hp,hs,hi,h0⟩:=hI;simp only at hi hr ⊢;have n:=hp.length_eq;simp only[AG] at n;by_cases hA:A=[]
  ·subst hA;simp only[if_true,List.length_nil] at hi n hE;rw[if_neg (by simp;omega),aZ];have hC:C=[]:=by rw[<-yAV];omega
   have hT:T=[]:=by rw[<-yAV];omega
   subst hC hT;exact ⟨[],by simp,.refl _,hs⟩
  ·rw[if_neg hA] at hi;have a8:=h0 hA;cases T with
   |nil=>simp only[List.length_nil] at n;rw[if_neg (by simp;omega),aZ];exact ⟨C,by simp,by simpa using hp,hs⟩
   |cons y T=>
    simp only[List.length_cons] at n;rw[if_pos (by simp;omega)];refine lpM (I:=λz=>∃U V,z=(a+(U.length:Int),P++U++y::(V++T++S))/\U++V=C/\∀v∈V,BM p y v) (m:=λz=>(z.1-a).toNat) (λz g hz a2=>?_) ⟨C,[],by rw[hi];simp,by simp,by simp⟩ (by simp;omega);obtain ⟨U,V,rfl,e,X⟩:=hz;have K:=Gy List.length e;simp only[AG] at K;have M:∀x∈P++U++y::(V++T++S),Ss p x:=λx Y=>O x (by
     simp only[nj,gn] at Y ⊢;have o:x∈U∨x∈V∨x=y∨x∈T->x∈A:=λh=>hp.mem_iff.1 (by
      rw[<-e];simp only[nj,gn];rcases h with h | h | h | h
      ·exact .inl (.inl h)
      ·exact .inl (.inr h)
      ·exact .inr (.inl h)
      ·exact .inr (.inr h))
     rcases Y with (h | h) | h | (h | h) | h
     ·exact .inl (.inl h)
     ·exact .inl (.inr (o (.inl h)))
     ·exact .inl (.inr (o (.inr (.inr (.inl h)))))
     ·exact .inl (.inr (o (.inr (.inl h))))
     ·exact .inl (.inr (o (.inr (.inr (.inr h)))))
     ·exact .inr h)
    have done:(∀u∈U,BM p u y)->bM (f (i64.wrap (i+1),P++U++y::(V++T++S))) (λr=>∃C,r=P++C++S/\C.Perm A/\yJ p C):=λhu=>by
     rw[Bc (x:=i+1) rfl (by omega) (by omega)];refine hr _ ⟨U++y::V,T,by simp,?_,?_,?_,λ_=>by simp;omega⟩ (by simp;omega)
     ·refine List.Perm.trans ?_ hp;rw[<-e];have:(U++y::V).Perm (U++V++[y]):=by
       rw[BL];exact List.Perm.append_left _ (yBS (l₁:=[y]))
      have:=this.append_right T;simpa using this
     ·have Z:=Od.1 (e▸hs:yJ p (U++V));refine Od.2 ⟨Z.1,yBl.2 ⟨X,Z.2.1⟩,λu h v O=>?_⟩;rcases gn.1 O with rfl | O
      ·exact hu u h
      ·exact Z.2.2 u h v O
     ·rw[if_neg hA];simp;omega
    refine DW (λx=>(x=true->∃b v,U=b++[v]/\BM p y v)/\(x=false->∀u∈U,BM p u y)) (λk hk=>?_) (λx Y=>?_)
    ·rw[bp];refine ⟨λh=>?_,λh=>hk _ ⟨by simp,λ_ u hu=>?_⟩⟩
     ·simp at h;rcases List.eq_nil_or_concat U with rfl | ⟨b,v,rfl⟩
      ·simp at h
      simp only[yBR] at M hk h ⊢;simp only[yBR,AG,List.length_cons,List.length_nil] at K;have w:i64.wrap (a+((b++[v]).length:Nat)-1)=((P++b).length:Nat):=Bc (by simp;omega) (by simp;omega) (by simp;omega);have e1:P++(b++[v])++y::(V++T++S)=(P++b)++v::(y::(V++T++S)):=by simp
      rw[w,dQ (by simp;omega),aD,show aB (P++(b++[v])++y::(V++T++S)) ((P++b).length:Nat)=some v from by rw[e1];exact dQ rfl,aD];refine (Du (by omega) (M y (by simp)) (M v (by simp))).bind λr aa=>hk _ ⟨λh=>⟨b,v,rfl,(aa.1 (by simpa using h)).le⟩,λh u hu=>?_⟩;have ab:BM p v y:=λg=>by have:=aa.2 g;simp at h;omega
      simp only[yBR] at e;have Z:=Od.1 (e▸hs:yJ p ((b++[v])++V));have h2:=Od.1 Z.1;rcases nj.1 hu with hu | hu
      ·exact (h2.2.2 u hu v (by simp)).trans ab
      ·simp at hu;subst hu;exact ab
     ·simp at h;have:U=[]:=by rw[<-yAV];omega
      subst this;simp at hu
    ·rw[bp];refine ⟨λh=>?_,λh=>done (Y.2 (by simpa using h))⟩;obtain ⟨b,v,rfl,a5⟩:=Y.1 h;simp only[AG,List.length_cons,List.length_nil] at K;have w:i64.wrap (a+((b++[v]).length:Nat)-1)=((P++b).length:Nat):=Bc (by simp;omega) (by simp;omega) (by simp;omega);have e1:P++(b++[v])++y::(V++T++S)=(P++b)++v::(y::(V++T++S)):=by simp
     have e3:P++(b++[v])++v::(V++T++S)=(P++b)++v::(v::(V++T++S)):=by simp
     simp only;rw[w,show aB (P++(b++[v])++y::(V++T++S)) ((P++b).length:Nat)=some v from by rw[e1];exact dQ rfl,aD,dQ (by simp;omega),aD,aD,jE (by simp;omega),e3,dQ (by simp),aD,jE (by simp)];refine a2 _ ⟨b,v::V,by simp;omega,by rw[<-e];simp,λu hu=>?_⟩ (by simp;omega);rcases gn.1 hu with rfl | hu
     ·exact a5
     ·exact X u hu
 ·refine ⟨A.take 1,A.drop 1,by simp only[BL];rw[<-BL (A.take 1),NW],by rw[NW],?_,?_,?_⟩
  ·cases A with
   |nil=>exact .nil
   |cons=>simp[yJ]
  ·cases A <;> simp
  ·intro (h:A≠[]);have:=Th.2 h;simp;omega
def Tz(n:Nat):List Int:=(List.range n).map λ(i:Nat)=>(i:Int)
theorem qM(n:Nat):(Tz n).length=n:=by simp[Tz]
theorem upn_get{n i:Nat}(h:i<n):(Tz n)[i]'(by rw[qM];exact h)=(i:Int):=by simp[Tz]
theorem RK{p:List K3}{x:Int}(h:x∈Tz p.length):Ss p x:=by simp only[Tz,iQ,yBM] at h;obtain ⟨i,a,rfl⟩:=h;exact ⟨by omega,by omega⟩
theorem QU{α:Type}{z:α}{n:Nat}(h:n<=1000):FG z (n:Int) (n:Int)=some (List.replicate n z):=by unfold FG;simp;omega
theorem Py{N:Nat}{p:List K3}(hp:p.length<40)(hN:2000<=N):bM (zeT N p) λr=>r.Perm (Tz p.length)/\yJ p r:=by
 unfold zeT;rw[QU (by omega),aD];refine jb p.length (λi x=>x=((i:Int),(Tz p.length).take i++List.replicate (p.length-i) 0)) (λi x f X n b=>?_) (λx f n=>?_) (by simp) (by omega)
 ·subst n;have hl:((Tz p.length).take i).length=i:=by simp[qM];omega
  have e:List.replicate (p.length-i) (0:Int)=0::List.replicate (p.length-(i+1)) 0:=by rw[show p.length-i=(p.length-(i+1))+1 by omega,List.replicate_succ]
  simp only;rw[if_pos (by simp;omega),e,dQ (by rw[hl]),aD,jE (by rw[hl]),bS (by omega)];refine b _ (by rw[List.take_add_one,eI (by rw[qM];exact X),upn_get X];simp)
 ·subst n;rw[yB9 (by rw[qM];exact cU _),yCk,List.replicate_zero,Ep];simp only;rw[if_neg (by simp),qM];generalize n:Tz p.length=x;have z:x.length=p.length:=by rw[<-n,qM]
  have d:∀a∈x,Ss p a:=λa g=>RK (by rw[n];exact g)
  suffices key:∀o:Option (List Int),(bM o λr=>r.Perm x/\yJ p r)->bM ((o.bind λK=>some K).bind λu=>BN p.length u.length<|some u) λr=>r.Perm x/\yJ p r by
   refine key _ ?_;have M:i64.wrap (20+20)=40:=rfl;have O:i64.wrap (2 * 20)=40:=rfl;have Q:i64.wrap (20 * 2)=40:=rfl;have R:i64.wrap (0+20)=20:=rfl;by_cases aa:p.length<20
   ·refine rI (by omega) λf y=>?_;simp only;rw[if_neg (by simp;omega)];have Y:=QI (p:=p) (N:=N) (P:=[]) (A:=x) (S:=[]) (a:=0) (E:=p.length) rfl (by simp;omega) (by omega) (by simp;omega) (by simpa using d);rw[xAb,Ep] at Y;refine Y.bind λr b=>?_;obtain ⟨C,rfl,h,t⟩:=b;rw[pH (by simpa using h.length_eq.symm)];refine rI (by omega) λf y=>?_;rw[if_neg (by simp;omega),aZ];exact ⟨by simpa using h,by simpa using t⟩
   ·refine rI (by omega) λf y=>?_;simp only;have v:x=x.take 20++x.drop 20:=(NW _ _).symm;have Z:(x.take 20).length=20:=by simp;omega
    have l2:(x.drop 20).length=p.length-20:=by simp;omega
    rw[if_pos (by simp;omega)];have r1:=QI (p:=p) (N:=N) (P:=[]) (A:=x.take 20) (S:=x.drop 20) (a:=0) (E:=20) rfl (by rw[Z];simp) (by omega) (by simp;omega) (by simpa using d);rw[xAb,<-v] at r1;refine r1.bind λr b=>?_;obtain ⟨C,rfl,h,t⟩:=b;have T:C.length=20:=by rw[h.length_eq,Z]
    rw[xAb,pH (by simp;omega),M,y];refine rI (by omega) λf y=>?_;simp only;rw[if_neg (by simp;omega)];have U:∀a∈C++x.drop 20,Ss p a:=λa g=>d a (by
     rcases nj.1 g with g | g
     ·exact Qo (h.mem_iff.1 g)
     ·exact yBh g)
    have r2:=QI (p:=p) (N:=N) (P:=C) (A:=x.drop 20) (S:=[]) (a:=20) (E:=p.length) (by rw[T];rfl) (by rw[T,l2];omega) (by omega) (by simp;omega) (by simpa using U);rw[Ep] at r2;refine r2.bind λr b=>?_;obtain ⟨D,rfl,h3,h4⟩:=b;have lD:D.length=p.length-20:=by rw[h3.length_eq,l2]
    have m:(C++D).Perm x:=by rw[v];exact List.Perm.append h h3
    rw[Ep,pH (by simp;omega)];refine rI (by omega) λf2 W=>?_;simp only;by_cases ab:p.length=20
    ·rw[if_neg (by simp;omega),aZ];have:D=[]:=by rw[<-yAV];omega
     subst this;exact ⟨m,by simpa using t⟩
    ·rw[if_pos (by simp;omega),O];refine rI (by omega) λf3 ad=>?_;simp only;rw[if_neg (by simp;omega),R];refine DW (λr=>r.Perm x/\yJ p r) (λk hk=>?_) (λr b=>?_)
     ·rw[if_pos (by simp;omega)];have r3:=NH (p:=p) N [] C D [] 0 20 p.length (by rw[<-Th];omega) (by rw[<-Th];omega) (by simp;omega) (λa g=>d a (m.mem_iff.1 (by simpa using g))) (by omega) rfl (by rw[T];rfl) (by simp;omega);rw[xAb,Ep] at r3;refine r3.bind λr b=>?_;obtain ⟨G,rfl,h5,h6⟩:=b;have lG:=h5.length_eq;rw[pH (by simp at lG ⊢;omega)];exact hk _ ⟨by simpa using h5.trans m,by simpa using h6 t h4⟩
     ·rw[Q,W];refine rI (by omega) λf4 af=>?_;simp only;rw[if_neg (by simp;omega),aZ];exact b
  intro o ⟨r,ho,h,t⟩;rw[ho,aD,aD,pH (by rw[h.length_eq,z])];exact aZ.2 ⟨h,t⟩
end Go.Plain
end
section
namespace Go.Plain
open Go.Abs
theorem CR{s:bm}(hs:lq s)(k:bn s):PM 5000 s=some true:=by
 obtain ⟨r,e,h⟩:=qW s hs
 simp_all
theorem GD(x a b:Int):∃v,zcm 5000 x a b=some v:=by
 unfold zcm;split
 ·simp_all
 ·split <;> exact ⟨_,rfl⟩
theorem MM(x:Int):∃v,im 5000 x=some v:=by
 obtain ⟨r,e⟩:=GD x 0 1099511627776;unfold im Mv
 simp_all
theorem Ta{s:bm}(hs:lq s)(k:bn s)(j:aK)(d:Int)(use:List Int):∃v,Dc 5000 s j d use=some v:=by
 have g:∃v,zi 5000 d j.dy=some v:=by unfold zi;split <;> exact ⟨_,rfl⟩
 obtain ⟨ag,o⟩:=g;obtain ⟨i,p⟩:=GD j.aL 0 64;unfold Dc yk;rw[CR hs k,aD,if_neg (by simp)];simp only[dW,o,p,Option.bind_some];have m:∀q:Int,∃v:Int×Int×Int×Int,(if ((decide (j.cw≥0))&&(decide (j.cw<(use.length:Int))))=true then
    (aB use j.cw).bind λr=>(im 5000 r).bind λt=>some ((i64.wrap (s.aq.nV * ag)),(i64.wrap (s.aq.cZ * i)),(i64.wrap (s.aq.gy * q)),(i64.wrap (s.aq.bZ * t)))
   else some ((i64.wrap (s.aq.nV * ag)),(i64.wrap (s.aq.cZ * i)),(i64.wrap (s.aq.gy * q)),(i64.wrap (s.aq.bZ * 0))))=some v:=λq=>by
  by_cases n:((decide (j.cw≥0))&&(decide (j.cw<(use.length:Int))))=true
  ·have a:=n;simp only[bH,br] at a;obtain ⟨h,e⟩:=Eh (l:=use) a.1 a.2;obtain ⟨f,u⟩:=MM (use[j.cw.toNat]'h)
   simp_all
  ·rw[if_neg n];simp_all
 by_cases hq:((decide (j.Queue≥0))&&(decide (j.Queue<(s.aj.length:Int))))=true
 ·have b:=hq;simp only[bH,br] at b;obtain ⟨h,e⟩:=Eh (l:=s.aj) b.1 b.2;rw[if_pos hq,e,aD];obtain ⟨v,ev⟩:=m (s.aj[j.Queue.toNat]'h).gy
  simp_all
 ·rw[if_neg hq];obtain ⟨v,ev⟩:=m 0
  simp_all
def Ti(s:bm)(n:kf)(j:aK):K3:=(qu 5000 s j n).getD (0,0,0)
theorem keyP_ok{s:bm}(hs:lq s)(k:bn s)(n:kf)(j:aK):qu 5000 s j n=some (Ti s n j):=by
 have:∃v,qu 5000 s j n=some v:=by
  obtain ⟨v,e⟩:=Ta hs k j n.aR n.gF;unfold qu
  simp_all
 grind [Ti]
theorem Uz{s:bm}(hs:lq s)(k:bn s)(n:kf){L:List aK}(hL:∀j∈L,fj j)(hl:L.length<40) :
  bM (zeR 5000 L s n) λr=>r.Perm L:=by
 unfold zeR;rw[CR hs k,aD,if_neg (by simp),QU (by omega),aD];refine jb L.length (λi x=>x=((i:Int),(L.map (Ti s n)).take i++List.replicate (L.length-i) (0,0,0))) (λi x f b a d=>?_) (λx f a=>?_) (by simp) (by omega)
 ·subst a;have hl:((L.map (Ti s n)).take i).length=i:=by grind
  have e:List.replicate (L.length-i) ((0,0,0):K3)=(0,0,0)::List.replicate (L.length-(i+1)) (0,0,0):=by rw[show L.length-i=(L.length-(i+1))+1 by omega,List.replicate_succ]
  simp only;rw[if_pos (cK b),bV b,aD,keyP_ok hs k,aD,e,dQ (by rw[hl]),aD,jE (by rw[hl]),bS (by omega)]
  grind [List.take_add_one]
 ·subst a;rw[yB9 (by simp),yCk,List.replicate_zero,Ep];simp only;have z:∀x:aK,FG x 0 (L.length:Int)=some []:=λx=>by
   unfold FG
   grind
  rw[if_neg (by simp),z,aD];refine (Py (N:=5000) (p:=L.map (Ti s n)) (by simp_all) (by omega)).bind λr d=>?_;obtain ⟨hp,hw⟩:=d;rw[xF] at hp;have h:r.length=L.length:=by rw[hp.length_eq,qM]
  have m:∀x∈r,0<=x/\x<L.length:=λx a=>by
   have:=RK (p:=L.map (Ti s n)) (x:=x) (by grind)
   grind [Ss]
  let J:Int->aK:=λx=>L.getD x.toNat { Id:=0,cw:=0,Queue:=0,aL:=0,az:=({ bL:=0,Mem:=0,bO:=0,bR:=0 }:aE),aW:=0,aF:=[],State:=0,Ok:=false,dt:=false,aN:=0,dy:=0,Start:=0,End:=0,Array:=0 }
  have o:∀x∈r,aB L x=some (J x):=λx a=>by grind [Eh]
  refine jb r.length (λi x=>x=((i:Int),(r.map J).take i)) (λi x f b a d=>?_) (λx f a=>?_) (by simp) (by omega)
  ·subst a;have t:fj (J r[i]):=by
    grind [Eh]
   simp only;rw[if_pos (cK b),bV b,aD,o _ (bC b),aD];have u:zaD 5000 (J r[i]).aF=some (J r[i]).aF:=xQ (by grind [fj.kJ]);rw[u,aD,Aw (by grind),aD,bS (by omega)];refine d _ (by rw[List.take_add_one,eI (by grind)];simp)
  ·subst a;simp only;rw[if_neg (by simp),aZ,yB9 (by simp)];have g:(Tz L.length).map J=L:=by
    apply yBW
    ·simp[Tz]
    grind [Tz]
   grind
section
variable{l:List aK}(hl:l.length<=300)(hs:bQ l)
def US(l:List aK)(d:Of):Prop:=∃j∈l,j.Id=d.aV/\(j.State=5∨j.State=6)/\(d.Ok=true->j.State=5/\j.Ok=true)
include hl in
theorem Yb(id:Int):bM (vJ 5000 id l) λr=>(r.2=false/\∀j∈l,j.Id≠id)∨∃(i:Nat)(h:i<l.length),l[i].Id=id/\r=(l[i],true):=by
 unfold vJ;refine vk l (λ_ j=>j.Id≠id) (λi f h _ a=>?_) (λf h=>?_) (by omega)
 ·simp only[cK h,if_true,bV h,Option.bind_some,bS (show i<1000000 by omega),bp,aZ,nK]
  grind
 ·simp only[eC,bT,cn,aZ];exact .inl ⟨trivial,CW (A:=λ(j:aK)=>j.Id≠id) h⟩
include hl hs in
theorem K_{d:Of}{i:Nat}(a:i<l.length)(e:l[i].Id=d.aV):US l d↔(l[i].State=5∨l[i].State=6)/\(d.Ok=true->l[i].State=5/\l[i].Ok=true):=by
 constructor
 ·rintro ⟨j,hj,h1,h2,h3⟩;obtain ⟨t,b,rfl⟩:=ky hj;have:=hs.inj b a (h1.trans e.symm)
  simp_all
 ·rintro ⟨h2,h3⟩;exact ⟨l[i],bC a,e,h2,h3⟩
include hl hs in
theorem YD{j:aK}(n:j.aF.length<=10):fH (nQ 5000 j l) (∀d∈j.aF,US l d):=by
 unfold nQ;refine Oh j.aF (US l) _ (λh=>h) (λi f b Q o g=>?_) (λf h=>?_) (by omega)
 ·rw[if_pos (cK b),bV b,aD];refine (Yb hl _).bind λr a=>?_;rw[dW];rcases a with ⟨a,hn⟩ | ⟨t,k,e,rfl⟩
  ·rw[if_pos (by simp[a])];show bM (if true=true then _ else _) _;rw[if_pos rfl,aZ];exact g λ⟨j,hj,e,_⟩=>hn j hj e
  ·have m:=K_ hl hs k e;unfold EP VA;simp only[Option.bind_some];rw[if_neg (by simp),bS (show i<1000000 by omega)]
   grind [aZ]
 ·simp only[eC,bT,cn];exact qD h
def zD(l:List aK)(j:aK):Bool:=(j.State == 1)&&(nQ 5000 j l).getD false
theorem WL{T:Type}(st:T->Int)(met:T->Option Bool):∀l:List T,(∀a∈l,∃b,met a=some b)->DX st met l=some (l.filter λa=>(st a == 1)&&(met a).getD false)
 |[],_=>rfl
 |a :: l, h => by
  have ih:=WL st met l λx d=>h x (pM _ d);obtain ⟨b,e⟩:=h a (sq ..);unfold DX
  grind
include hl hs in
theorem SG(d:∀j∈l,j.aF.length<=10):fA 5000 l=some (l.filter (zD l)):=by unfold fA Wi;rw[show Nat.ble l.length 1000000=true from Nat.ble_eq▸(by omega)];exact WL _ _ l λa h=>by obtain ⟨b,e,_⟩:=YD hl hs (d a h);simp_all
end
theorem Re{R:Type}{K:List aK->Option R}:∀(r b:List aK),b.length+r.length<=1000 ->
  ZS (λ(d:aK) (e:List aK) f=>
  (bI e ([d]:List aK)).bind λg=>
  f g) K r b=K (b++r)
 |[],b,_=>by simp[ZS]
 |a :: r, b, h => by simp only[List.length_cons] at h;unfold ZS;rw[Aw (by grind),aD,Re r _ (by grind)];simp
theorem Ag{R:Type}{b:(Int×Int->Option R)->Int×Int->Option R}{Q:R->Prop}{l:List aK}(hl:l.length<=300)(P:aK->Bool)
  (hs:∀f (c i:Nat) (h:i<l.length),c<=i->bM (f (((if P l[i] then c+1 else c:Nat):Int),((i+1:Nat):Int))) Q->bM (b f ((c:Int),(i:Int))) Q)
  (g:∀f,bM (b f ((l.countP P:Int),(l.length:Int))) Q):bM (bz b 5000 (0,0)) Q:=by
 refine jb l.length (λi x=>x=(((l.take i).countP P:Int),(i:Int))) (λi x f d a e=>?_) (λx f a=>?_) (by simp) (by omega)
 ·subst a;refine hs f _ i d (lQ List.countP_le_length (by grind)) (e _ ?_)
  grind [List.take_add_one]
 simp_all
def hasB(x:Int):Bool:=(x == 3) || (x == 4)
theorem GK{l:List aK}(hl:l.length<=300)(q:Int):kY 5000 l q=some (l.countP λj=>(j.Queue == q)&&hasB j.State:Int):=by
 unfold kY;apply bM.eq;rw[jV];refine Ag hl (λj=>(j.Queue == q)&&hasB j.State) (λf c i a d b=>?_) (λf=>?_)
 ·simp only[dW];rw[if_pos (cK a),bV a,aD,bS (show i<1000000 by omega),bS (show c<1000000 by omega)];unfold eG;by_cases h:(l[i].Queue == q)=true
  ·rw[if_pos h,aD,aD];simp only[h,yBJ] at b;show bM (if hasB l[i].State=true then _ else _) _
   grind
  simp_all
 ·simp only;rw[if_neg (by simp),aZ,aZ]
theorem of_eq{l:List aK}(hl:l.length<=300)(q u:Int):Ap 5000 l q u=some (l.countP λj=>((j.Queue == q)&&(j.cw == u))&&hasB j.State:Int):=by
 unfold Ap;apply bM.eq;rw[jV];refine Ag hl (λj=>((j.Queue == q)&&(j.cw == u))&&hasB j.State) (λf c i a d b=>?_) (λf=>?_)
 ·simp only[dW];rw[if_pos (cK a),bV a,aD,bS (show i<1000000 by omega),bS (show c<1000000 by omega)];unfold eG;by_cases h:((l[i].Queue == q)&&(l[i].cw == u))=true
  ·rw[if_pos h,aD,aD];simp only[h,yBJ] at b;show bM (if hasB l[i].State=true then _ else _) _
   grind
  grind
 ·simp only;rw[if_neg (by simp),aZ,aZ]
theorem Ga{s:bm}(hs:lq s)(k:bn s){l:List aK}(hl:l.length<=300)(j:aK):∃b,eS 5000 s l j=some b:=by
 unfold eS oV;by_cases hq:0<=j.Queue/\j.Queue<s.aj.length
 ·obtain ⟨a,e⟩:=Eh (l:=s.aj) hq.1 hq.2;rw[if_pos (by simp_all),CR hs k,aD,aD,if_neg (by simp),e,aD,GK hl,aD,of_eq hl,aD];split <;> exact ⟨_,rfl⟩
 ·rw[if_neg (by simp_all),aD,if_pos (by simp)]
  simp_all
end Go.Plain
end
