/- Lemmas. -/
import Derived.Test.YtcndmfkgdaipaaaGreatLawB
import Derived.Test.YtcndmfkgdaipaaaGreatLawA
set_option linter.all false
open Go.IntKind (i64 u64)
section
namespace Go.Plain
open Go.Abs
theorem vg{zs:List Int}{j:Nat}(h:j<zs.length):zs.toArray[j]! = zs[j]:=by simp_all
theorem Nx(zs:List Int)(x:Int):x∈Lib.compact zs↔x∈zs:=by
 unfold Lib.compact Lib.compactUpTo;constructor
 ·grind
 ·intro h;obtain ⟨j,hj,rfl⟩:=jc h;have:∀j (hj:j<zs.length),zs[j]∈((List.range zs.length).filter (Lib.keeps zs.toArray)).map (zs.toArray[·]!):=by
   intro j;induction j with
   |zero=>intro hj;exact iP.2 ⟨0,Tu.2 ⟨yCd.2 hj,by simp[Lib.keeps]⟩,vg hj⟩
   |succ j ih=>
    intro hj;by_cases e:zs[j+1]=zs[j]
    ·simp_all
    ·refine iP.2 ⟨j+1,Tu.2 ⟨yCd.2 hj,?_⟩,vg hj⟩;unfold Lib.keeps
     grind
  simp_all
theorem Fh{zs:List Int}(h:zs.Pairwise λa b=>a<=b):(Lib.compact zs).Pairwise λa b=>a<=b:=by
 unfold Lib.compact Lib.compactUpTo;rw[List.pairwise_map]
 grind [vg,List.pairwise_iff_getElem]
theorem eqLen_ok{R:Type}{a b:Nat}(h:a=b)(k:Option R):DF a b k=k:=by grind [Go.Abs.DF,Nat.beq_refl]
structure XD (nodes:List (List bP)) (part:List Int) (T:List Int):Prop where
 bL:T.Pairwise λa b=>a<=b
 mem:∀x,x∈T↔∃n∈part,∃s∈(nodes[n.toNat]?).getD [],s.At=x
theorem VT{l:List Int}(hl:l.length<=1000000){Q:List Int->Prop}(h:∀T,T.Pairwise (λa b=>a<=b)->(∀x,x∈T↔x∈l)->T.length<=l.length->Q T) :
  bS ((zck 5000 l).bind λe=>DF l.length e.length<|(zbP 5000 e).bind λf=>some f.2) Q:=by
 unfold zck zbP OI;rw[Abs.MR];have d:∀m:List Int,m.map (λk=>k)=m:=λm=>List.map_id' m;rw[if_pos hl,ay,d,d,eqLen_ok (List.length_mergeSort l).symm];unfold Mh;rw[if_pos (by simp_all),ay,bm,d,d];have g:∀a b c:Int,decide (a<=b)=true->decide (b<=c)=true->decide (a<=c)=true:=λa b c n o=>by grind
 have i:∀a b:Int,(decide (a<=b) || decide (b<=a))=true:=λa b=>by grind
 have hs:(l.mergeSort λx y=>decide (x<=y)).Pairwise λa b=>a<=b:=(List.pairwise_mergeSort g i l).imp λ{a b} h=>by simp_all
 refine h _ (Fh hs) (λx=>?_) (by grind [Go.Abs.zy,List.length_mergeSort]);rw[Nx,(List.mergeSort_perm l _).mem_iff]
theorem GQ{nodes:List (List bP)}{q:fi}{L:Nat}(hL:L<=200)(hq:km q)(hp:PR nodes q L){w:Bb}(hw:Je q w) :
  bS (zbv 5000 nodes w.Part q.S.aH) λT=>XD nodes (ce q w) T/\T.length<=3200:=by
 have nn:=hq.spec.nodes.hi;obtain ⟨u,v⟩:=jM hw;have r:=hq.spec.parts.ok _ v;have pl:(ce q w).length<=16:=by
  rcases xg r.2 with h | h
  ·omega
  simp_all
 have t:=hp.len;unfold zbv;rw[if_neg (by have:=hw.part;simp_all),u,ay];refine jC (ce q w).length (λi x=>x.1=(i:Int)/\x.2.length<=200 * i/\∀y,y∈x.2↔∃n∈(ce q w).take i,∃s∈(nodes[n.toNat]?).getD [],s.At=y) (λi x f hi a z=>?_) (λx f a=>?_) ⟨rfl,by simp,λy=>by simp⟩ (by omega)
 ·obtain ⟨y,T⟩:=x;obtain ⟨rfl,g,b⟩:=a;dsimp only at g b ⊢;have hn:=r.2.mem _ (bH hi);obtain ⟨k,A⟩:∃k:Nat,(ce q w)[i]=(k:Int):=⟨((ce q w)[i]).toNat,by omega⟩;have hk:k<nodes.length:=by omega
  obtain ⟨G,lk⟩:=hp.cO.each k hk;rw[if_pos (cX hi),cf hi,ay,A,cf hk,ay];refine jC nodes[k].length (λj x=>x.1=(j:Int)/\x.2.length=T.length+j/\∀y,y∈x.2↔y∈T\/∃s∈nodes[k].take j,s.At=y) (λj x E hj a m=>?_) (λx E a=>?_) ⟨rfl,rfl,λy=>by simp⟩ (by omega)
  ·obtain ⟨y,U⟩:=x;obtain ⟨rfl,o,d⟩:=a;dsimp only at o d ⊢;rw[if_pos (cX hj),cf hj,ay,Dt (by grind),ay,bY (show j<1000000 by omega)];refine m _ ⟨rfl,by grind,λy=>?_⟩;dsimp only;rw[kB,zq,d,or_assoc];refine or_congr_right ?_;constructor
   ·rintro (⟨s,e,p⟩ | h)
    ·grind
    ·exact ⟨_,(eG hj).2 (.inr rfl),h.symm⟩
   ·rintro ⟨s,e,p⟩;rcases (eG hj).1 e with e | e
    ·grind
    simp_all
  ·obtain ⟨y,U⟩:=x;obtain ⟨rfl,o,d⟩:=a;dsimp only at o d ⊢;rw[if_neg (by simp),bY (show i<1000000 by omega)];rw[zp] at d;refine z _ ⟨rfl,by grind,λy=>?_⟩;dsimp only;rw[d,b,GK hi]
   simp_all
 ·obtain ⟨y,T⟩:=x;obtain ⟨rfl,g,b⟩:=a;dsimp only at g b ⊢;rw[if_neg (by simp)];rw[zp] at b;exact VT (by omega) λU e p K=>⟨⟨e,λx=>(p x).trans (b x)⟩,by omega⟩
def cu(q:fi)(w:Bb)(t:Int):List cM×Bool:=(UY 5000 q w t).getD ([],false)
structure rO (q:fi) (w:Bb) (T:List Int) (r:gD×Bool):Prop where
 yes:r.2=true->r.1.At∈T/\(cu q w r.1.At).2=true/\(∀s∈T,(cu q w s).2=true->r.1.At<=s)/\r.1.aW=0/\r.1.ai=(cu q w r.1.At).1
 no:r.2=false->(∀s∈T,(cu q w s).2=false)/\r.1={ aW:=0,At:=0,ai:=[] }
section
variable{nodes:List (List bP)}{q:fi}{L:Nat}(hL:L<=200)(hq:km q)(hp:PR nodes q L){w:Bb}(hw:Je q w)
include hL hq hp hw
theorem Cy{t:Int}(b:q.aP<=t):zaI 5000 nodes w.Part w.aK w.aw w.aQ t q.aP q.S.aH=some (cu q w t)/\UY 5000 q w t=some (cu q w t):=by
 by_cases d:t<=1099511627776
 ·obtain ⟨F,_,_,e,a⟩:=xr (by omega) hq hp hw b d;have:cu q w t=BS F (ce q w) w.aK w.aw:=by grind [cu]
  simp_all
 ·have a:UY 5000 q w t=some ([],false):=by
   unfold UY
   simp_all
  have:cu q w t=([],false):=by grind [cu]
  rw[this];refine ⟨?_,a⟩;unfold zaI
  simp_all
theorem Uv:bS (zaF 5000 q w) λr=>∃T,Ak q T/\rO q w T r:=by
 unfold zaF;refine (OR hq).bind λT a=>?_;have k:=a.len;refine yE T (λ_ t=>(cu q w t).2=false) (λi f hi b d=>?_) (λf b=>?_) (by omega)
 ·have e:=(a.mem T[i]).1 (bH hi);rw[if_pos (cX hi),cf hi,ay,(Cy hL hq hp hw e.1).2,ay,bz,bY (show i<1000000 by omega)];refine ⟨λh=>?_,λh=>d (by simp_all)⟩;rw[ay,bm];refine ⟨T,a,⟨λ_=>⟨bH hi,h,λs hs m=>?_,rfl,rfl⟩,λh=>by simp at h⟩⟩;obtain ⟨j,hj,rfl⟩:=jc hs;dsimp only;rcases WI j i with g | g | g
  ·simp_all
  ·simp_all
  ·have:=yBa.1 a.bL i j hi hj g;omega
 ·rw[if_neg (by simp),bm];exact ⟨T,a,⟨λh=>by simp at h,λ_=>⟨Er (A:=λt=>(cu q w t).2=false) b,rfl⟩⟩⟩
theorem Iu{T:List Int}(b:XD nodes (ce q w) T):q.aP∈T/\∀x∈T,q.aP<=x:=by
 obtain ⟨i,g⟩:=jM hw;have d:=hq.spec.parts.ok _ g;have e:=hp.len;constructor
 ·have f:0<(ce q w).length:=by omega
  have hn:=d.2.mem _ (bH f);have hk:((ce q w)[0]).toNat<nodes.length:=by omega
  obtain ⟨a,lk⟩:=hp.cO.each _ hk;refine (b.mem _).2 ⟨_,bH f,nodes[((ce q w)[0]).toNat][0]'a.ne,?_,hp.cO.first _ hk a.ne⟩
  simp_all
 ·intro x h;obtain ⟨n,hn,s,hs,rfl⟩:=(b.mem x).1 h;have nb:=d.2.mem n hn;have hk:n.toNat<nodes.length:=by omega
  obtain ⟨a,lk⟩:=hp.cO.each _ hk;rw[eO hk,SE] at hs;obtain ⟨j,hj,rfl⟩:=jc hs;have:=hp.cO.first _ hk a.ne;have:=a.le (RP j) hj;omega
theorem Qh:bS (zaL 5000 nodes w.Part w.aK w.aw w.aQ q.aP q.S.aH) fun r=>∃T,XD nodes (ce q w) T/\rO q w T r:=by
 unfold zaL
 refine (GQ hL hq hp hw).bind fun T d=>?_
 obtain ⟨d,v⟩:=d
 have a:=(Iu hL hq hp hw d).2
 have fin:∀i (hi:i<T.length),(∀j (hj:j<T.length),j<i->(cu q w T[j]).2=false)->(cu q w T[i]).2=true->rO q w T ({ aW:=0,At:=T[i],ai:=(cu q w T[i]).1 },true):=fun i hi e h=>
  ⟨fun _=>⟨bH hi,h,fun s hs m=>by
   obtain ⟨j,hj,rfl⟩:=jc hs
   dsimp only
   rcases WI j i with g | g | g
   ·simp_all
   ·simp_all
   ·have:=yBa.1 d.bL i j hi hj g; omega,rfl,rfl⟩,fun h=>by simp at h⟩
 have none:(∀j (hj:j<T.length),(cu q w T[j]).2=false)->rO q w T ({ aW:=0,At:=0,ai:=[] },false):=fun e=>
  ⟨fun h=>by simp at h,fun _=>⟨Er (A:=fun t=>(cu q w t).2=false) e,rfl⟩⟩
 rw [bz]
 refine ⟨fun h=>?_,fun h=>?_⟩
 ·rw [bm]
  grind
 ·have n:0<T.length:=by grind
  have o:aC T 0=some T[0]:=cf n
  rw [o,ay,(Cy hL hq hp hw (a _ (bH n))).1,ay,bz]
  refine ⟨fun p=>?_,fun p=>?_⟩
  ·grind [bm]
  ·refine jC (T.length-1) (fun i x=>x=(T,((i+1:Nat):Int))/\∀j (hj:j<T.length),j<i+1->(cu q w T[j]).2=false) (fun i x f hi k y=>?_) (fun x f k=>?_) ⟨rfl,fun j hj u=>?_⟩ (by omega)
   ·obtain ⟨rfl,e⟩:=k
    have b:i+1<T.length:=by omega
    dsimp only
    rw [if_neg (by grind),cf b,ay,(Cy hL hq hp hw (a _ (bH b))).1,ay,bz]
    refine ⟨fun m=>?_,fun m=>?_⟩
    ·grind [bm]
    ·rw [bY (show i+1<1000000 by omega)]
     grind
   ·obtain ⟨rfl,e⟩:=k
    dsimp only
    rw [if_pos (by grind),bm]
    grind
   simp_all
theorem Cu{t a:Int}(m:q.aP<=a)(h:a<=t)(o:∀n∈ce q w,∀u,a<=u->u<=t->bC q n u=bC q n t)(i:(cu q w t).2=true):(cu q w a).2=true:=by
 have Q:=hp.right;have p:=hq.now;have R:=hw.wall;have r:t<=1099511627776:=by
  rcases yC5 1099511627776 t with g | g
  ·exfalso;have T:UY 5000 q w t=some ([],false):=by
    unfold UY
    simp_all
   grind [cu]
  omega
 obtain ⟨F,x,b,_,e⟩:=xr (by omega) hq hp hw (show q.aP<=t by omega) r;obtain ⟨G,y,d,_,U⟩:=xr (by omega) hq hp hw m (by omega);have w1:cu q w t=BS F (ce q w) w.aK w.aw:=by grind [cu]
 have w2:cu q w a=BS G (ce q w) w.aK w.aw:=by grind [cu]
 rw[w1] at i;rw[w2];obtain ⟨z,A⟩:=qR.1 i;refine qR.2 ⟨z,Int.le_trans A (Ft b d hw.need λn hn c=>?_)⟩;have nb:=b.node n hn;obtain ⟨E,_,K⟩:=rL (F:=F) nb.1 nb.2;obtain ⟨M,_,N⟩:=rL (F:=G) nb.1 (by grind [Dr.len]);have f:=x.low _ E;have k:=y.low _ M;rw[yCu nb.1] at f k;rw[K,N];obtain ⟨u,v,O,W,P,ev⟩:=k.cO c;rw[<-ev,P];by_cases g:u<t
 ·rw[o n hn u O (by omega)];exact f.le t _ (LU _) (by omega) rfl c
 ·exact f.le u _ (by omega) (by omega) rfl c
theorem ND{t:Int}(a:(cu q w t).2=true):t<=1099511627776:=by
 rcases yC5 1099511627776 t with g | g
 ·exfalso;have b:UY 5000 q w t=some ([],false):=by
   unfold UY
   simp_all
  grind [cu]
 omega
theorem MK:∃r,zaL 5000 nodes w.Part w.aK w.aw w.aQ q.aP q.S.aH=some r/\zaF 5000 q w=some r/\(∃T,Ak q T/\rO q w T r):=by
 obtain ⟨r,e,T,N,Y⟩:=Uv hL hq hp hw;obtain ⟨Z,e',v,i,d⟩:=Qh hL hq hp hw;obtain ⟨ep,hm⟩:=jM hw;have kp:=hq.spec.parts.ok _ hm;have aa:=hp.len;have O:=Iu hL hq hp hw i;have f:∀t∈T,(cu q w t).2=true->∃h∈v,h<=t/\(cu q w h).2=true:=λt P Q=>by
  have A:=(N.mem t).1 P;obtain ⟨x,k,E,m,R⟩:=wL v (a:=q.aP) A.1;have U:x∈v:=by grind
  refine ⟨x,U,m,Cu hL hq hp hw E m (λn hn u u1 u2=>?_) Q⟩;have nb:=kp.2.mem n hn;have hk:n.toNat<nodes.length:=by omega
  have v1:=hp.val n.toNat hk u (by omega);have v2:=hp.val n.toNat hk t A.1;rw[yCu nb.1] at v1 v2;obtain ⟨s,s1,s2,W,s4⟩:=v2;have sx:s.At<=x:=R _ ((i.mem _).2 ⟨n,hn,s,by simp_all,rfl⟩) s2;exact v1.CB (hp.cO.each _ hk).1 ⟨s,s1,by omega,λs' o G=>W s' o (by omega),s4⟩
 have g:∀t∈v,(cu q w t).2=true->∃h∈T,h<=t/\(cu q w h).2=true:=λt P Q=>by
  have A:=O.2 t P;obtain ⟨x,k,E,m,R⟩:=wL T (a:=q.aP) A;have U:x∈T:=by
   rcases k with k | k
   ·rw[k];exact (N.mem _).2 ⟨LU _,.inl rfl⟩
   omega
  refine ⟨x,U,m,Cu hL hq hp hw E m (λn hn u u1 u2=>?_) Q⟩;have c:∀y,x<=y->y<=t->bC q n y=bC q n x:=λy y1 y2=>uO E y1 λz z1 z2 z3=>by have:=R z ((N.mem z).2 ⟨z1,z2⟩) (by omega);omega
  simp_all
 have:Z=r:=by
  obtain ⟨p,b⟩:=r;obtain ⟨X,b'⟩:=Z;cases b with
  |true=>
   obtain ⟨o,G,h3,h4,h5⟩:=Y.yes rfl;dsimp only at o G h3 h4 h5;obtain ⟨h,t1,t2,t3⟩:=f _ o G;cases b' with
   |true=>
    obtain ⟨K,M,g3,g4,g5⟩:=d.yes rfl;dsimp only at K M g3 g4 g5;obtain ⟨s',s1,s2,W⟩:=g _ K M;have:=g3 _ t1 t3;have:=h3 _ s1 W;have ea:X.At=p.At:=by omega
    have:X=p:=by
     obtain ⟨a1,a2,a3⟩:=p;obtain ⟨b1,b2,b3⟩:=X
     simp_all
    rw[this]
   |false=>
    have:=(d.no rfl).1 _ t1
    simp_all
  |false=>
   obtain ⟨o,G⟩:=Y.no rfl;cases b' with
   |true=>
    obtain ⟨K,M,_⟩:=d.yes rfl
    grind
   |false=>
    obtain ⟨K,M⟩:=d.no rfl
    simp_all
 grind
end
def ee(u:qp):jJ:={ aw:=u.aw,ai:=u.ai,pc:=u.To }
structure XR (q:fi):Prop where
 ref:km q
 lo:∀u∈q.L,u.bJ=q.aP/\q.aP<u.To
 caps:∀(i k:Nat)(h:k<q.S.aj.length)(t:Int)(c:Nat),cmp c (aR (q.L.take i) k t)<=cmp c q.S.aj[k]
 live:∀b∈q.az,q.aP<b.To
 yM:∀b∈q.az,∀t,b.bJ<=t->q.aP<=t->aR q.L b.Node t=bU
theorem PM{q:fi}(h:XR q):gZ 5000 (q.L.map ee) q.aP q.S.aj.length=some true:=by
 have o:=h.ref.yT;unfold gZ;refine bS.eq (yE (q.L.map ee) (λ_ _=>True) (λi f hi _ p=>?_) (λf r=>?_) (by grind))
 ·have a:i<q.L.length:=by simp_all
  have u:=h.ref.used _ (bH a);have t:=h.lo _ (bH a);have e:(q.L.map ee)[i]=ee q.L[i]:=Pv ..;obtain ⟨v,b,d⟩:=oJ (ee q.L[i]).ai q.S.aj.length u.yT;have:=d.2 u.shares;subst this;obtain ⟨x,g,k⟩:=Vj (ee q.L[i]).aw;have:=k.2 u.need;subst this;rw[if_pos (cX hi),cf hi,e,ay,fN,b,ay,if_neg (by simp),g,ay];have m:decide ((ee q.L[i]).pc<=q.aP)=false:=by show decide (q.L[i].To<=q.aP)=false;simp_all
  have n:decide ((ee q.L[i]).pc > 281474976710656)=false:=by show decide (q.L[i].To > _)=false;have:=u.hi;simp_all
  rw[m,n];dsimp only;rw[if_neg (by simp),bY (show i<1000000 by omega)]
  simp_all
 ·rw[if_neg (by simp),bm]
theorem Np{a:Int}{r:aE}(h:0<=a/\a<=1099511627776)(b:aO r):dL [({ At:=a,cz:=r }:bP)]:=
 ⟨by simp,λi hi=>by grind,λs hs=>by grind⟩
theorem UB{a:Int}{r:aE}(h:0<=a/\a<=1099511627776)(b:aO r):wN 5000 a r=some ([{ At:=a,cz:=r }],0):=by unfold wN;rw[jG (by simp) (Np h b),ay,if_neg (by simp)]
theorem LA{q:fi}(k:bq q.S){i:Nat}(hi:i<q.S.aj.length):aO q.S.aj[i]:=k.nodes.ok _ (bH hi)
theorem NE{q:fi}(h:XR q):bS (zeS 5000 (q.L.map ee) q.S q.aP q.az) λr=>∃nodes,r=.inr (nodes,q.aP,q.S.aH)/\PR nodes q (1+2 * (q.L.length+q.az.length)):=by
 have hq:=h.ref;have hs:=gn hq.spec;have nn:=hq.spec.nodes.hi;have ad:=hq.now;have hf:=hq.yT;have hb:=hq.cy.len;unfold zeS;obtain ⟨rb,eb,av⟩:=FW q.az q.S.aj.length (by omega);have:=av.2 hq.cy;subst this;rw[fN,Ca hs hq.spec,ay,if_neg (by simp;omega),eb,ay,if_neg (by simp),PM h,ay];dsimp only;rw[if_neg (by simp)];have ak:=hs.parts;refine jC q.S.aH.length (λi x=>x=((i:Int),q.S.aH.take i)) (λi x f hi G Y=>?_) (λx f G=>?_) rfl (by omega)
 ·subst G;have pl:=hs.part _ (bH hi);dsimp only;rw[if_pos (cX hi),cf hi,ay];unfold za0;rw[GP (by omega),ay,Dt (by simp;omega),ay,bY (show i<1000000 by omega)];exact Y _ (by rw[GK hi])
 subst G;dsimp only;rw[if_neg (by simp),zp];refine jC q.S.aj.length (λi x=>x.1=(i:Int)/\x.2=(q.S.aj.take i).map λr=>[({ At:=q.aP,cz:=r }:bP)]) (λi x f hi G Y=>?_) (λx f G=>?_) ⟨rfl,rfl⟩ (by omega)
 ·obtain ⟨y,M⟩:=x;obtain ⟨rfl,rfl⟩:=G;dsimp only;rw[if_pos (cX hi),cf hi,ay,UB ad (LA hq.spec hi),ay,if_neg (by simp),Dt (by simp;omega),ay,bY (show i<1000000 by omega)];exact Y _ ⟨rfl,by rw[GK hi,yBC];rfl⟩
 obtain ⟨y,M0⟩:=x;obtain ⟨rfl,rfl⟩:=G;dsimp only;rw[if_neg (by simp),zp];have af:∀(r:aE)(t:Int),q.aP<=t->zc [({ At:=q.aP,cz:=r }:bP)] t r:=λr t K=>⟨_,zq.2 rfl,K,λs' A _=>by rw[zq.1 A];exact LU _,rfl⟩;refine jC (q.L.map ee).length (λi x=>x.1=(i:Int)/\x.2.length=q.S.aj.length/\Ee x.2 q.aP (1+2 * i)/\∀(k:Nat)(A:k<x.2.length)(U:k<q.S.aj.length)(t:Int),q.aP<=t->zc x.2[k] t (fy q.S.aj[k] (aR (q.L.take i) k t))) (λi x f hi G Y=>?_) (λx f G=>?_) ⟨rfl,by simp,⟨λk hk=>?_,λk hk A=>by simp⟩,λk A U t K=>?_⟩ (by simp;omega)
 ·obtain ⟨y,M⟩:=x;obtain ⟨rfl,N,o,E⟩:=G;dsimp only at N o E ⊢;have Z:i<q.L.length:=by simpa using hi
  have u:=hq.used _ (bH Z);have lo:=h.lo _ (bH Z);have e:(q.L.map ee)[i]=ee q.L[i]:=Pv ..;have st:∀k t,aR (q.L.take (i+1)) k t=BT (aR (q.L.take i) k t) (jv q.L[i] k t):=λk t=>by rw[GK Z,nA]
  rw[if_pos (cX hi),cf hi,e,ay];refine (C_ (by omega) o (by omega) (a:=q.aP) (b:=(ee q.L[i]).pc) (l:=(ee q.L[i]).ai) (need:=(ee q.L[i]).aw) (by rw[N];exact u.shares) u.yT u.need (LU _) (show q.aP<q.L[i].To by omega) u.hi (λk hk t v h1 U hv c=>?_)).bind λr aa=>?_
  ·have O:k<q.S.aj.length:=by omega
   have ev:=hv.CB (o.each k hk).1 (E k hk O t h1);have cp:=h.caps (i+1) k O t c;rw[st,wQ] at cp;have ea:jv q.L[i] k t=mulR (dO q.L[i].ai k) q.L[i].aw:=by unfold jv;rw[if_pos ⟨by omega,U⟩]
   rw[ea] at cp;rw[ev,Cz];show cmp c (mulR (dO q.L[i].ai k) q.L[i].aw)<=_;omega
  ·obtain ⟨r1,r2,r3⟩:=aa;rw[if_neg (by simp[r1]),bY (show i<1000000 by omega)];refine Y _ ⟨rfl,by dsimp only;omega,⟨λk hk=>?_,λk hk A=>?_⟩,λk A U t K=>?_⟩
   ·have T:=r3 k (by dsimp only at hk;omega) hk;exact ⟨T.ok,by have:=T.len;have:=(o.each k (by dsimp only at hk;omega)).2;dsimp only at *;omega⟩
   ·have T:=r3 k (by dsimp only at hk;omega) hk;have n0:=(o.each k (by dsimp only at hk;omega)).1.ne;dsimp only;rw[T.first n0 A,o.first k (by dsimp only at hk;omega) n0]
   ·have T:=r3 k (by dsimp only at A;omega) A;have:=T.val t _ (E k (by omega) U t K);dsimp only;rw[st];by_cases g:t<q.L[i].To
    ·have ea:jv q.L[i] k t=mulR (dO q.L[i].ai k) q.L[i].aw:=by unfold jv;rw[if_pos ⟨by omega,g⟩]
     rw[if_pos ⟨K,g⟩] at this;rw[ea,<-Ih];exact this
    ·have ea:jv q.L[i] k t=bU:=by unfold jv;rw[if_neg λW=>g W.2]
     rw[if_neg (show ¬(q.aP<=t/\t<(ee q.L[i]).pc) from λW=>g W.2)] at this;rw[ea,Ij];exact this
 ·obtain ⟨y,M⟩:=x;obtain ⟨rfl,N,o,E⟩:=G;dsimp only at N o E ⊢;rw[if_neg (by simp)];rw[yH,zp] at E;rw[yH] at o;refine jC q.az.length (λi x=>x.1=(i:Int)/\x.2.length=q.S.aj.length/\Ee x.2 q.aP (1+2 * (q.L.length+i))/\∀(k:Nat)(A:k<x.2.length)(t:Int),q.aP<=t->zc x.2[k] t (bC { q with az:=q.az.take i } k t)) (λi x f hi G Y=>?_) (λx f G=>?_) ⟨rfl,N,by simpa using o,λk A t K=>?_⟩ (by omega)
  ·obtain ⟨y,M⟩:=x;obtain ⟨rfl,N,o,E⟩:=G;dsimp only at N o E ⊢;have bk:=hq.cy.each i hi;have lv:=h.live _ (bH hi);have nd:=bk.one.node;obtain ⟨n,en⟩:∃n:Nat,q.az[i].Node=(n:Int):=⟨q.az[i].Node.toNat,by omega⟩;have hn:n<M.length:=by omega
   have ab:n<q.S.aj.length:=by omega
   obtain ⟨sk,lk⟩:=o.each n hn;have f0:=o.first n hn sk.ne;rw[if_pos (cX hi),fN,cf hi,ay,if_neg (by simp;omega),en,cf hn,ay,cf ab,ay];have nv:=LA hq.spec ab;have an:jB q.S.aj (n:Int)=q.S.aj[n]:=AW ab;have X:∀t,q.aP<=t->q.az[i].bJ<=t->t<q.az[i].To->bC { q with az:=q.az.take i } n t=q.S.aj[n]:=λt h1 U h3=>by
    unfold bC;rw[if_neg]
    ·have:=h.yM _ (bH hi) t U h1;rw[en] at this;show fy (jB q.S.aj n) (aR q.L n t)=_;rw[this,an];exact dX λc=>by rw[Cz,Pw];omega
    ·rintro ⟨b,Q,m1,m2,m3⟩;obtain ⟨j,hj,rfl⟩:=KW.1 Q;rw[Dj] at hj;simp only[RW] at m1 m2 m3;refine (bk.up j (by omega) (by omega)).2 ⟨by rw[m1,en],by omega,bk.one.span,by omega,by omega⟩
   have ax:=bk.one.lo;have a0:=bk.one.hi;have sp:=bk.one.span;have mx:∀P:Int->Prop,P (if q.aP > q.az[i].bJ then q.aP else q.az[i].bJ)=P (max q.aP q.az[i].bJ):=λP=>by congr 1;split <;> omega
   rw[show (if q.aP > q.az[i].bJ then q.aP else q.az[i].bJ)=max q.aP q.az[i].bJ by split <;> omega]
   refine (yW (by omega) sk nv (by omega) (show max q.aP q.az[i].bJ<q.az[i].To by omega) (by omega) λt v h1 U hv c=>?_).bind λr aa=>?_
   ·have ev:=hv.CB sk (E n hn t (by omega));rw[ev,X t (by omega) (by omega) U];exact LU _
   ·obtain ⟨r1,T⟩:=aa;rw[if_neg (by simp[r1]),Dw,bY (show i<1000000 by omega),Int.toNat_natCast];refine Y _ ⟨rfl,by simp[N],⟨λk hk=>?_,λk hk A=>?_⟩,λk A t K=>?_⟩
    ·by_cases g:n=k
     ·subst g;have e:(M.set n r.1)[n]'(by simpa using hn)=r.1:=yBE _;show dL (M.set n r.1)[n]/\(M.set n r.1)[n].length<=_;rw[e];exact ⟨T.ok,by have:=T.len;omega⟩
     ·have d:k<M.length:=by simpa using hk
      have e:(M.set n r.1)[k]'(by simpa using d)=M[k]:=yB2 g _;show dL (M.set n r.1)[k]/\(M.set n r.1)[k].length<=_;rw[e];have:=o.each k d;exact ⟨this.1,by have:=this.2;omega⟩
    ·by_cases g:n=k
     ·subst g;have e:(M.set n r.1)[n]'(by simpa using hn)=r.1:=yBE _;simp only[e];rw[T.first sk.ne T.ok.ne,f0]
     ·have d:k<M.length:=by simpa using hk
      have e:(M.set n r.1)[k]'(by simpa using d)=M[k]:=yB2 g _;simp only[e];exact o.first k d (o.each k d).1.ne
    ·have d:k<M.length:=by simpa using A
     have p:Eu (q.az.take (i+1)) k t↔Eu (q.az.take i) k t\/(q.az[i].Node=(k:Int)/\q.az[i].bJ<=t/\t<q.az[i].To):=by
      unfold Eu;rw[GK hi];constructor
      ·rintro ⟨b,Q,m⟩;rcases kB.1 Q with g | g
       ·exact .inl ⟨b,g,m⟩
       ·rw[zq.1 g] at m;exact .inr m
      ·rintro (⟨b,g,m⟩ | m)
       ·exact ⟨b,yBI _ g,m⟩
       ·exact ⟨_,yBD _ (zq.2 rfl),m⟩
     by_cases g:n=k
     ·subst g;have e:(M.set n r.1)[n]'(by simpa using hn)=r.1:=yBE _;simp only[e];have Um:=E n hn t K;have new:=T.val t _ Um;by_cases W:q.az[i].bJ<=t/\t<q.az[i].To
      ·rw[if_pos ⟨by omega,W.2⟩,X t K W.1 W.2] at new;have:bC { q with az:=q.az.take (i+1) } n t=bU:=by
        unfold bC;rw[if_pos];exact p.2 (.inr ⟨en,W⟩)
       rw[this];have z:fy q.S.aj[n] q.S.aj[n]=bU:=dX λc=>by rw[Cz,Pw];omega
       rw[z] at new;exact new
      ·rw[if_neg λR=>W ⟨by omega,R.2⟩] at new;have:bC { q with az:=q.az.take (i+1) } n t=bC { q with az:=q.az.take i } n t:=by
        unfold bC;by_cases R:Eu (q.az.take i) n t
        ·rw[if_pos (show Eu (q.az.take (i+1)) n t from p.2 (.inl R)),if_pos (show Eu (q.az.take i) n t from R)]
        ·rw[if_neg (show ¬Eu (q.az.take (i+1)) n t from λg4=>(p.1 g4).elim R λg5=>W g5.2),if_neg (show ¬Eu (q.az.take i) n t from R)]
       rw[this];exact new
     ·have e:(M.set n r.1)[k]'(by simpa using d)=M[k]:=yB2 g _;simp only[e];have:bC { q with az:=q.az.take (i+1) } k t=bC { q with az:=q.az.take i } k t:=by
       unfold bC;by_cases R:Eu (q.az.take i) k t
       ·rw[if_pos (show Eu (q.az.take (i+1)) k t from p.2 (.inl R)),if_pos (show Eu (q.az.take i) k t from R)]
       ·rw[if_neg (show ¬Eu (q.az.take (i+1)) k t from λg4=>(p.1 g4).elim R λg5=>by rw[en] at g5;omega),if_neg (show ¬Eu (q.az.take i) k t from R)]
      rw[this];exact E k d t K
  ·obtain ⟨y,M⟩:=x;obtain ⟨rfl,N,o,E⟩:=G;dsimp only at N o E ⊢;rw[if_neg (by simp),bm];rw[zp] at E;exact ⟨M,rfl,N,o,E⟩
  ·have e:bC { q with az:=q.az.take 0 } k t=fy (jB q.S.aj k) (aR q.L k t):=by
    unfold bC;rw[if_neg];rintro ⟨b,Q,_⟩;simp at Q
   have O:k<q.S.aj.length:=by dsimp only at A;omega
   rw[e,AW O];exact E k A O t K
 ·have d:k<q.S.aj.length:=by simpa using hk
  have e:((q.S.aj).map λr=>[({ At:=q.aP,cz:=r }:bP)])[k]'(by simpa using d)=[{ At:=q.aP,cz:=q.S.aj[k] }]:=Pv ..;simp only[e];exact ⟨Np ad (LA hq.spec d),by simp⟩
 ·have e:((q.S.aj).map λr=>[({ At:=q.aP,cz:=r }:bP)])[k]'(by simpa using U)=[{ At:=q.aP,cz:=q.S.aj[k] }]:=Pv ..;simp only[e];have z:fy q.S.aj[k] (aR (q.L.take 0) k t)=q.S.aj[k]:=dX λc=>by rw[Cz];simp[aR,Pw]
  rw[z];exact af _ t K
def zeroJ:aJ:={ Id:=0,cw:=0,Queue:=0,aK:=0,aw:={ bG:=0,Mem:=0,bK:=0,bM:=0 },aQ:=0,aF:=[],State:=0,Ok:=false,cQ:=false,aL:=0,cT:=0,Start:=0,End:=0,Array:=0 }
theorem Xz{l:List aJ}(hl:l.length<=300)(hs:bZ l)(id:Int):bS (zaM 5000 l id) λr=>(r.2=true↔∃j∈l,j.Id=id)/\(r.2=true->At l id r.1):=by
 unfold zaM;rw[jT];refine half hl hs id (λj=>some (decide (j.Id<id))) (λj hj=>rfl) (λi=>some i) (λi hi d g=>?_) _ (λf x=>?_)
 ·rw[bm,bz];refine ⟨λh=>?_,λh=>?_⟩
  ·simp only[bB] at h;have a:i<l.length:=by omega
   rw[cf a,ay,bm];simp only[nD];refine ⟨⟨λe=>⟨_,bH a,e⟩,λ⟨j,b,e⟩=>?_⟩,λe=>⟨by omega,by omega,by simp_all⟩⟩;obtain ⟨k,hk,rfl⟩:=jc b;rcases WI k i with q | q | q
   ·grind
   ·simp_all
   ·have:=hs.lt q hk;grind
  ·simp only[bB] at h;simp only[bm,b_,GN,false_implies,NV]
   grind [List.getElem_of_mem]
 grind
section
variable{l:List aJ}
theorem Iq(hl:l.length<=300)(hs:bZ l){k:Nat}(hk:k<l.length):zaM 5000 l l[k].Id=some ((k:Int),true):=by obtain ⟨⟨r,b⟩,e,d,f⟩:=Xz hl hs l[k].Id;have hb:b=true:=d.2 ⟨_,bH hk,rfl⟩;subst hb;have a:At l l[k].Id r:=f rfl;have:=hs.inj a.hi hk a.is;have:=a.lo;rw[e,show r=(k:Int) by omega]
theorem wi{j:aJ}(h:gj j):zeM 5000 j=some true:=by obtain ⟨r,e,q⟩:=Ch j;rw[e,q.2 h]
theorem PD(hs:bZ l){k:Nat}(hk:k<l.length){j:aJ}(d:j.Id=l[k].Id):bZ (l.set k j):=by
 have a:∀i (h:i<l.length),((l.set k j)[i]'(by simp_all)).Id=l[i].Id:=λi h=>by grind
 intro i hi;have b:i+1<l.length:=by simp_all
 rw[a i (by omega),a (i+1) b];exact hs i b
end
def RA(x:Int):Int:=if x≥281474976710656 then 0 else x+1
theorem Om{x:Int}(h:0<=x):f_ 5000 x=some (RA x):=by
 unfold f_ RA;simp only[bB]
 grind [wr]
def rR(Q:List Int)(q:Int):List Int:=if 0<=q/\q<Q.length then Q.set q.toNat (RA (Q[q.toNat]?.getD 0)) else Q
theorem QN(Q:List Int)(q:Int):(rR Q q).length=Q.length:=by grind [rR]
def qE(Q:List Int):Prop:=∀x∈Q,0<=x/\x<=281474976710656
theorem T_{x:Int}(h:0<=x/\x<=281474976710656):0<=RA x/\RA x<=281474976710656:=by grind [RA]
theorem Jf{Q:List Int}(h:qE Q)(q:Int):qE (rR Q q):=by
 unfold rR;split
 ·rename_i hq;have hl:q.toNat<Q.length:=by omega
  intro x a;rcases yCq a with e | e
  ·exact h x e
  ·subst e;rw[eO hl];exact T_ (h _ (bH hl))
 ·exact h
theorem Pj{Q:List Int}(h:qE Q)(q:Int):zbf 5000 Q q=some (rR Q q):=by
 unfold zbf rR;by_cases hq:0<=q/\q<Q.length
 ·rw[if_pos (by simp_all),if_pos hq];obtain ⟨a,e⟩:=Hb (l:=Q) hq.1 hq.2;rw[e,ay,Om (h _ (bH a)).1,ay,ay,eO a];rfl
 grind
def oU(Q:List Int)(a b:Int):List Int:=if b=a then rR Q a else rR (rR Q a) b
theorem NT(Q:List Int)(a b:Int):(oU Q a b).length=Q.length:=by grind [oU,QN]
theorem PJ{Q:List Int}(h:qE Q)(a b:Int):qE (oU Q a b):=by grind [oU,Jf]
section
variable{l:List aJ}
def FK(x:Int):Prop:=x=1\/x=2
instance (x:Int):Decidable (FK x):=by unfold FK;infer_instance
theorem Qo(x:Int):ja 5000 x=some (decide (FK x)):=by unfold ja;congr 1;rw[Bool.eq_iff_iff];rw[bB];simp only[gG,nD,FK]
end
structure Shows (st:bT):Prop where
 bj:st.ah.length<=300
 after:∀j∈st.ah,j.aF.length<=10
 cr:st.ae.length<=300
 asc:BK st.ae
 ids:∀a∈st.ae,0<=a.aW/\a.aW<=1048576
 sh:∀a∈st.ae,a.ai.length<=300
 cy:st.az.length<=20
 use:st.jA.length<=20
 stamps:st.aB.aq.length<=20
theorem Yv{s:bg}{st:bT}(hw:lI s st)(q:aV s st):Shows st:=
 ⟨hw.bj,hw.after,hw.cr,CA q,IT q,hw.sh,hw.cy,hw.use,hw.stamps⟩
theorem shown_of{st:bT}(h:Shows st) :
  R_ 5000 st.aB.aq st.ah (st.ae.map λa=>(a.aW,a)) st.aP st.Next st.dw st.az st.jA st.aB.aj=some st:=by
 have hl:=h.bj;have hb:=h.cy;have b:=h.use;have hs:=h.stamps;unfold R_;rw[Oc (by omega) h.after,ay,show a_ 5000 (st.ae.map λa=>(a.aW,a))=some st.ae from Fi h.cr h.asc h.ids h.sh,ay,Db (by omega),ay,rQ (by omega),ay,show zca 5000 st.aB.aq=some st.aB.aq from GP (by omega),ay]
section
variable{l:List aJ}
theorem get_some(hl:l.length<=300)(hs:bZ l){k:Nat}(hk:k<l.length)(a:l[k].aF.length<=1000):zbu 5000 l l[k].Id=some (l[k],true):=by unfold zbu;rw[Iq hl hs hk,ay];simp only[Pu,b_,cA];rw[cf hk,ay,Ed (by omega),ay]
theorem YL(hl:l.length<=300)(hs:bZ l){k:Nat}(hk:k<l.length)(a:l[k].aF.length<=1000):zcN 5000 l l[k].Id=some (l[k],true):=by unfold zcN;rw[get_some hl hs hk a,ay]
end
theorem findP_at{l:List aJ}(hl:l.length<=300)(hs:bZ l){i:Nat}(hi:i<l.length):Pp 5000 l l[i].Id=some (i:Int):=by
 obtain ⟨r,e,b,d,_⟩:=wB hl l[i].Id;have f:0<=r:=b.2 ⟨_,bH hi,rfl⟩;have a:=d f;have:=hs.inj a.hi hi a.is
 grind
def Ma(st:bT)(id:Int):aJ:=(st.ah.find? λj=>j.Id == id).getD zeroJ
theorem FL{st:bT}(hs:bZ st.ah){i:Nat}(hi:i<st.ah.length):Ma st st.ah[i].Id=st.ah[i]:=by
 unfold Ma;obtain ⟨j,e⟩:∃j,st.ah.find? (λj=>j.Id == st.ah[i].Id)=some j:=by
  cases h:st.ah.find? (λj=>j.Id == st.ah[i].Id) with
  |some j=>simp_all
  |none=>
   have:=List.find?_eq_none.1 h _ (bH hi)
   simp_all
 rw[e,SE];have a:=List.find?_some e;simp only[nD] at a;obtain ⟨k,hk,rfl⟩:=jc (yBB e);have:=hs.inj hk hi a
 simp_all
def nj(st:bT)(a:bO):Int:=(Ma st a.aW).Start+(Ma st a.aW).aQ
def cF(st:bT)(a:bO):qp:={ bJ:=st.aP,To:=nj st a,aw:=a.aw,ai:=a.ai }
def eT(s:bg)(st:bT):fi:={ S:=s,aP:=st.aP,L:=st.ae.map (cF st),az:=st.az }
section
variable{s:bg}{st:bT}(hw:lI s st)(q:aV s st)
include hw q
theorem mC{a:bO}(b:a∈st.ae):∃i,∃h:i<st.ah.length,st.ah[i].Id=a.aW/\eX s st st.ah[i] a/\tW st.ah[i]=true/\Ma st a.aW=st.ah[i]:=by obtain ⟨j,hj,P⟩:=eJ.mem q.cr a b;obtain ⟨d,e⟩:=Tu.1 hj;obtain ⟨i,hi,rfl⟩:=jc d;exact ⟨i,hi,P.Eb.symm,P,e,by rw[P.Eb];exact FL q.bj.bL hi⟩
theorem FV{a:bO}(b:a∈st.ae):st.aP<nj st a/\nj st a<=st.aP+65536:=by
 obtain ⟨i,hi,_,P,_,e⟩:=mC hw q b;have j:=q.bj.each _ (bH hi);have d:=P.now;have f:=j.start;have g:=j.ok.wall
 grind [nj]
omit hw q in
theorem Pd{H:List aJ}{A:List bO}{F:List aE}(h:eJ s st H A F):A.length=H.length:=by
 induction H generalizing A F with
 |nil=>rw[show A=[] from h];rfl
 |cons j H ih=>obtain ⟨b,a,rfl,_,_,d⟩:=h;grind
theorem jt:st.ae.length<=st.ah.length:=by rw[Pd q.cr];grind
omit hw q in
theorem wT(L:List qp)(k t:Int)(c:Nat):cmp c (aR L k t)=(L.map λu=>cmp c (jv u k t)).sum:=by
 have:∀(L:List qp)(r:aE),cmp c (L.foldl (λr u=>BT r (jv u k t)) r)=cmp c r+(L.map λu=>cmp c (jv u k t)).sum:=by
  intro L;induction L with
  |nil=>simp_all
  |cons u L ih=>grind [wQ]
 grind [aR.eq_1,Pw]
omit hw q in
theorem caps_of{H:List aJ}{A:List bO}{F:List aE}(h:eJ s st H A F)(g:∀r∈F,aO r)(a:∀j∈H,aO j.aw)(k:Nat)(hk:k<F.length)(t:Int)(c:Nat):((A.map (cF st)).map λu=>cmp c (jv u k t)).sum<=cmp c F[k]:=by
 induction H generalizing A F with
 |nil=>
  rw[show A=[] from h]
  grind [wW,List.getElem_mem]
 |cons j H ih=>
  obtain ⟨b,m,rfl,P,d,e⟩:=h;have hl:k<(kZ F b).length:=by grind [zeQ]
  have:=ih e (vU d) (λi hi=>a i (pp _ hi)) hl;rw[ni hl] at this;unfold qv at this;rw[Cz] at this;rw[sy,sy,yCn];have le:cmp c (jv (cF st b) k t)<=cmp c (mulR (dO b.ai k) b.aw):=by
   unfold jv;split
   ·exact LU _
   ·rw[Pw];rw[CH];have o:=y_ (l:=b.ai) (λx f=>by have:=(P.pz.shares.mem x f);omega) k;rw[P.need];exact yCc o (wW.1 (a j (sV ..)) c).1
  omega
theorem NZ:∀u∈(eT s st).L,mM u s.aj.length:=λu f=>by
 obtain ⟨a,d,rfl⟩:=iP.1 f;obtain ⟨i,hi,_,P,_,e⟩:=mC hw q d;have j:=q.bj.each _ (bH hi);have b:=FV hw q d;have n:=q.nums.now;refine ⟨P.pz.shares,hw.sh a d,?_,n.1,?_⟩
 ·show aO a.aw;rw[P.need];exact j.ok.need
 ·show nj st a<=_;omega
theorem Bn(a:st.ah.length<=30):km (eT s st):={
 spec:=q.spec
 now:=q.nums.now
 cy:=q.fR.cy
 used:=NZ hw q
 yT:=by have:=jt hw q;show (st.ae.map (cF st)).length<=100;grind }
theorem Zp(f:st.ah.length<=30):XR (eT s st):={
 ref:=Bn hw q f
 lo:=λu hu=>by obtain ⟨a,d,rfl⟩:=iP.1 hu;exact ⟨rfl,(FV hw q d).1⟩
 caps:=λi k hk t c=>by
  have n:=caps_of q.cr q.spec.nodes.ok (λj hj=>(q.bj.each j (Tu.1 hj).1).ok.need) k hk t c;rw[wT];show ((((st.ae.map (cF st)).take i)).map λu=>cmp c (jv u k t)).sum<=cmp c s.aj[k];have o:((st.ae.map (cF st)).map λu=>cmp c (jv u k t)).sum=(((st.ae.map (cF st)).take i).map λu=>cmp c (jv u k t)).sum+(((st.ae.map (cF st)).drop i).map λu=>cmp c (jv u k t)).sum:=by grind [List.take_append_drop]
  have K:0<=(((st.ae.map (cF st)).drop i).map λu=>cmp c (jv u k t)).sum:=by
   have:∀M:List qp,(∀u∈M,mM u s.aj.length)->0<=(M.map λu=>cmp c (jv u k t)).sum:=by
    intro M;induction M with
    |nil=>simp_all
    |cons u M ih=>
     intro h;have:=ih λv p=>h v (pp _ p);have:=Fw (h u (sV ..)) k t c
     grind
   exact this _ λu hu=>NZ hw q u (yBp hu)
  omega
 live:=λb hb=>(q.fR.live b hb).2
 yM:=λb hb t n o=>dX λc=>by
  rw[wT,Pw];show ((st.ae.map (cF st)).map λu=>cmp c (jv u b.Node t)).sum=0;have:∀x∈(st.ae.map (cF st)).map λu=>cmp c (jv u b.Node t),x=0:=λx r=>by
   obtain ⟨u,hu,rfl⟩:=iP.1 r;obtain ⟨a,d,rfl⟩:=iP.1 hu;obtain ⟨i,hi,A,P,_,e⟩:=mC hw q d;by_cases g:∃y∈a.ai,y.Node=b.Node
   ·obtain ⟨y,E,G⟩:=g;have:=q.fR.yM a d _ (bH hi) A y E b hb G.symm;unfold jv;rw[if_neg,Pw];show ¬(st.aP<=t/\t<nj st a)
    grind [nj]
   ·have z:dO a.ai b.Node=0:=by
     grind [By]
    unfold jv;split
    ·show cmp c (mulR (dO a.ai b.Node) a.aw)=0
     grind [CH]
    grind [Pw]
  have m:∀M:List Int,(∀x∈M,x=0)->M.sum=0:=by
   intro M;induction M with
   |nil=>simp_all
   |cons x M ih=>simp_all
  simp_all }
theorem HO:zc8 5000 s st=some (eT s st):=by
 have hl:=hw.bj;have h:=hw.cr;unfold zc8;refine bS.eq (jC st.ae.length (λi x=>x=((i:Int),s.aj,s.aH,s.aq,s.aU,s.am.lj,s.am.cW,s.am.fH,s.am.bQ,s.bW,s.Mode,s.ah,s.kf,s.aI,s.bp,s.dk,s.In,s.Out,s.bV,st.aP,(st.ae.take i).map (cF st),st.az)) (λi x f hi a b=>?_) (λx f a=>?_) rfl (by omega))
 ·subst a;have d:=bH hi;obtain ⟨k,hk,g,P,_,e⟩:=mC hw q d;have j:=q.bj.each _ (bH hk);have m:=j.ok.wall;have n:=j.ok.start;dsimp only;rw[if_pos (cX hi),cf hi,ay,<-g,findP_at hl q.bj.bL hk,ay,cf hk,ay,wr (x:=_+_) (by omega) (by omega)];unfold zdf;dsimp only;rw[GP (by grind),ay,Dt (by grind),ay,ay,bY (show i<1000000 by omega)];refine b _ ?_;rw[GK hi,yBC];have:cF st st.ae[i]={ bJ:=st.aP,To:=st.ah[k].Start+st.ah[k].aQ,aw:=st.ae[i].aw,ai:=st.ae[i].ai }:=by
   grind [cF,nj]
  simp_all
 ·subst a;dsimp only;rw[if_neg (by simp),bm,zp];rfl
theorem UL{i:Nat}(hi:i<st.ah.length)(h:tW st.ah[i]=true):wS 5000 st.ah[i]=some (st.ah[i].Start+st.ah[i].aQ):=by have j:=q.bj.each _ (bH hi);have a:=j.ok.wall;have b:=j.ok.start;unfold wS eo;rw[fN,wi j.ok,ay,if_neg (by simp),ay];dsimp only;unfold tW at h;rw[h,if_neg (by simp),wr (by omega) (by omega)]
theorem jF(b:st.ah.length<=30){g:List (Int×bO)}(h:R_ 5000 st.aB.aq st.ah g st.aP st.Next st.dw st.az st.jA st.aB.aj=some st):∃nodes,zdA 5000 st.aB.aq st.ah g s.aj s.aH s.aq s.aU s.am.lj s.am.cW s.am.fH s.am.bQ s.bW s.Mode s.ah s.kf s.aI s.bp s.dk s.In s.Out s.bV st.aP st.Next st.dw st.az st.jA st.aB.aj=some (.inr (nodes,st.aP,s.aH))/\PR nodes (eT s st) (1+2 * (st.ae.length+st.az.length)):=by
 have hl:=hw.bj;have t:=hw.cr;obtain ⟨r,e,nodes,rfl,hp⟩:=NE (Zp hw q b);have m:(eT s st).L.length=st.ae.length:=yH ..;rw[m] at hp;refine ⟨nodes,?_,hp⟩;unfold zdA;rw[h,ay];have z:GH ({ aw:=({ bG:=0,Mem:=0,bK:=0,bM:=0 }:aE),ai:=[],pc:=0 }:jJ) 0 (st.ae.length:Int)=some []:=by
  unfold GH
  grind
 rw[z,ay];refine bS.eq (jC st.ae.length (λi x=>x=((i:Int),(st.ae.take i).map λa=>ee (cF st a))) (λi x f hi d n=>?_) (λx f d=>?_) rfl (by omega))
 ·subst d;have o:=bH hi;obtain ⟨k,hk,p,P,hj,u⟩:=mC hw q o;dsimp only;rw[if_pos (cX hi),cf hi,ay,<-p,YL hl q.bj.bL hk (by have:=hw.after _ (bH hk);omega),ay,UL hw q hk hj,ay,Dt (by grind),ay,bY (show i<1000000 by omega)];refine n _ ?_;rw[GK hi,yBC];have:ee (cF st st.ae[i])={ aw:=st.ae[i].aw,ai:=st.ae[i].ai,pc:=st.ah[k].Start+st.ah[k].aQ }:=by
   grind [ee,cF,nj]
  simp_all
 ·subst d;dsimp only;rw[if_neg (by simp),mK hw.spec,ay,zp];have:(st.ae.map λa=>ee (cF st a))=(eT s st).L.map ee:=by show _=(st.ae.map (cF st)).map ee;simp_all
  rw[this];have v:zeS 5000 ((eT s st).L.map ee) s st.aP st.az=some (.inr (nodes,st.aP,s.aH)):=e
  grind [bm]
end
theorem few30P(s:bg)(st:bT):bS (zcf 5000 s st) λr=>r=true->st.ah.length<=30:=by
 simp only[zcf,fN];refine (few07 s).bind λr b=>?_;simp only[if_true,bm,bz];refine ⟨by simp,λh=>?_⟩;refine (few17 st.ah).bind λd a=>?_;simp only[bz,bm];refine ⟨by simp,λh=>?_⟩;simp only[gG,bB,not_or,Int.not_lt,iF,oO] at h;obtain ⟨⟨⟨⟨h,e⟩,g⟩,k⟩,m⟩:=h;have n:=a h;refine yE st.ae (λ_ q=>True) (λi f h _ b=>?_) (λf hq=>?_) (by omega)
 ·simp only[cX h,if_true,cf h,ay,bY (show i<1000000 by omega),bz,bm,bB]
  simp_all
 ·simp only[eU,b_,cA,bm];omega
def dH(s:bg)(j:aJ):Bb:={ Part:=((s.aq[j.Queue.toNat]?).getD default).Part,aK:=j.aK,aw:=j.aw,aQ:=j.aQ }
theorem vk{s:bg}{j:aJ}(hq:0<=j.Queue/\j.Queue<s.aq.length):∃h:j.Queue.toNat<s.aq.length,aC s.aq j.Queue=some s.aq[j.Queue.toNat]/\dH s j={ Part:=s.aq[j.Queue.toNat].Part,aK:=j.aK,aw:=j.aw,aQ:=j.aQ }:=by grind [Hb,dH]
theorem qx{s:bg}{st:bT}{q:fi}(k:bq s)(eq:q.S=s){j:aJ}(h:gq s st j):Je q (dH s j):=by obtain ⟨a,_,e⟩:=vk ⟨h.ok.queue.1,h.queue⟩;have b:=k.iA.ok _ (bH a);have m:=h.ok.many;rw[e];exact ⟨by rw[eq];exact b.part,by grind,h.ok.need,h.ok.o_,h.ok.wall⟩
def named(j:aJ)(r:gD×Bool):gD×Bool:=if r.2=true then ({ aW:=j.Id,At:=r.1.At,ai:=r.1.ai },true) else ({ aW:=0,At:=0,ai:=[] },false)
section
variable{nodes:List (List bP)}{q:fi}{L:Nat}(hL:L<=200)(hq:km q)(hp:PR nodes q L){st:bT}{j:aJ}(hj:gq q.S st j)
include hL hq hp hj
theorem Mp:∃r,(WK 5000 nodes j q.S.aj q.S.aH q.S.aq q.S.aU q.S.am.lj q.S.am.cW q.S.am.fH q.S.am.bQ q.S.bW q.S.Mode q.S.ah q.S.kf q.S.aI q.S.bp q.S.dk q.S.In q.S.Out q.S.bV q.aP q.S.aH=some (named j r))/\zb0 5000 q.S q j=some (named j r)/\∃T,Ak q T/\rO q (dH q.S j) T r:=by
 have hw:=qx hq.spec rfl hj;obtain ⟨r,a,b,T,g,d⟩:=MK hL hq hp hw;obtain ⟨n,e,i⟩:=vk ⟨hj.ok.queue.1,hj.queue⟩;have k:=hj.queue;have m:=hj.ok.queue.1;rw[i] at a b;refine ⟨r,?_,?_,T,g,d⟩
 ·unfold WK;rw[mK (gn hq.spec),ay,if_neg (by simp_all),e,ay];dsimp only at a;rw[a,ay];unfold named
  grind
 ·unfold zb0 gI;rw[e,ay,ay,b,ay,fN];unfold named;by_cases h:r.2=true
  ·simp_all
  ·have f:r.2=false:=by simp_all
   rw[if_neg h,if_neg h,(d.no f).2,f]
end
section
variable{nodes:List (List bP)}{q:fi}{L:Nat}(hL:L<=200)(hq:km q)(hp:PR nodes q L){w:Bb}(hw:Je q w)
include hL hq hp hw
end
theorem Ko{l:List cM}{n:Int}(h:bo l n){y:cM}(hl:∀x∈l,x.Node<y.Node)(a:0<=y.Node/\y.Node<n)(hm:1<=y.aK/\y.aK<=64):bo (l++[y]) n:=λi hi=>by
 rw[Br,xAe] at hi;by_cases g:i<l.length
 ·have s:=h i g;have e:(l++[y])[i]'(by omega)=l[i]:=yBY g;rw[e];refine ⟨?_,s.lt,s.lo,s.hi⟩;have:LY ((l++[y]).map (·.Node)) i=LY (l.map (·.Node)) i:=by
   cases i with
   |zero=>rfl
   |succ i=>grind [sm]
  rw[this];exact s.up
 ·have b:i=l.length:=by omega
  subst b;have e:(l++[y])[l.length]'(by simp)=y:=by simp
  rw[e];refine ⟨?_,a.2,hm.1,hm.2⟩;cases d:l.length with
  |zero=>show (-1:Int)<y.Node;omega
  |succ i=>grind [sm]
section
variable{F:List aE}{l:List Int}{need:aE}(hP:kU F l)(hR:nI l F.length)(hn:aO need)(hz:need≠bU)
include hP hR hn hz
structure Ru (F:List aE) (need:aE) (l:List Int) (x:Int×List cM) (many:Int):Prop where
 shares:bo x.2 F.length
 mem:∀y∈x.2,y.Node∈l/\y.aK<=dM (jB F y.Node) need
 WN:x.1+lN x.2=many
 left:x.1=if many<=cV F l need then 0 else many-cV F l need
theorem QG{many:Int}(hm:1<=many)(i:Nat):Ru F need (l.take i) (tq F need (l.take i) many) many:=by
 induction i with
 |zero=>refine ⟨λi h=>by grind [tq],λy a=>by grind [tq],by simp[tq,lN],?_⟩;simp only[tq,List.take_zero,List.foldl_nil,cV,List.map_nil,List.sum_nil];omega
 |succ i ih=>
  by_cases hi:i<l.length
  ·have c:=pd hP hn (bH hi);have st:=vD hP hn hz hi many;have rs:=zU hP hn hz hi;have up:∀n∈l.take i,n<l[i]:=λn d=>by
    obtain ⟨j,hj,rfl⟩:=KW.1 d;rw[Dj] at hj;rw[RW];have:∀m,j<m->∀(hm:m<l.length),l[j]<l[m]:=by
     intro m;induction m with
     |zero=>omega
     |succ m f=>
      intro g hm;have s:=(hR (m+1) hm).1
      grind [qT]
    grind
   have b:∀n,n∈l.take (i+1)↔n∈l.take i\/n=l[i]:=λn=>by rw[GK hi,kB,zq]
   have k:=ih.left;have o:=Ae hP hn hz (i:=i);rw[st];generalize tq F need (l.take i) many=x at *;have p:0<=x.1:=by omega
   unfold plS;by_cases q:HU x.1 (dM (jB F l[i]) need)=0
   ·rw[if_pos q];refine ⟨ih.shares,λy a=>⟨(b _).2 (.inl (ih.mem y a).1),(ih.mem y a).2⟩,ih.WN,?_⟩
    grind [HU]
   ·rw[if_neg q];have hb:=hP.node _ (bH hi);have e:1<=HU x.1 (dM (jB F l[i]) need)/\HU x.1 (dM (jB F l[i]) need)<=64/\HU x.1 (dM (jB F l[i]) need)<=dM (jB F l[i]) need:=by
     unfold HU at q ⊢;omega
    refine ⟨Ko ih.shares (λy a=>up _ (ih.mem y a).1) hb ⟨e.1,e.2.1⟩,λy a=>?_,?_,?_⟩
    ·rcases kB.1 a with a | a
     ·exact ⟨(b _).2 (.inl (ih.mem y a).1),(ih.mem y a).2⟩
     simp_all
    ·grind [Ru.WN,lN]
    grind [HU]
  grind [List.take_of_length_le]
theorem UX{many:Int}(h:(BS F l many need).2=true):bo (BS F l many need).1 F.length/\lN (BS F l many need).1=many/\(∀y∈(BS F l many need).1,y.Node∈l)/\∀(n:Nat)(hn:n<F.length),s_ (mulR (dO (BS F l many need).1 n) need) F[n]\/dO (BS F l many need).1 n=0:=by
 obtain ⟨m,u⟩:=qR.1 h;have P:=QG hP hR hn hz m l.length;rw[zp] at P;have e:BS F l many need=((tq F need l many).2,true):=by unfold BS;simp_all
 rw[e];have z:=P.left;rw[if_pos u] at z;refine ⟨P.shares,by grind [Ru.WN],λy f=>(P.mem y f).1,λn p=>?_⟩;dsimp only;by_cases g:∃y∈(tq F need l many).2,y.Node=(n:Int)
 ·left;obtain ⟨y,f,v⟩:=g;obtain ⟨m1,r⟩:=P.mem y f;obtain ⟨i,hi,rfl⟩:=jc f;have o:=Ky P.shares hi;rw[v] at o m1 r;have x:jB F (n:Int)=F[n]:=AW p;have t:=hP.W_ _ m1;rw[x] at r t;have k:=wU t hn;rw[o];have d:∀a b:Int,(a,b)∈GF F[n] need->0<=b->(tq F need l many).2[i].aK * b<=a:=λa b A hb=>by
   have m:=k.fit _ A;dsimp only at m;have:(tq F need l many).2[i].aK * b<=dM F[n] need * b:=yAW r hb;omega
  intro c;rw[CH]
  match c with
  |0=>exact d _ _ (by simp[GF];exact .inl ⟨rfl,rfl⟩) hn.G_.1
  |1=>exact d _ _ (by simp[GF];exact .inr (.inl ⟨rfl,rfl⟩)) hn.mem.1
  |2=>exact d _ _ (by simp[GF];exact .inr (.inr (.inl ⟨rfl,rfl⟩))) hn.KN.1
  |_+3=>exact d _ _ (by simp[GF];exact .inr (.inr (.inr ⟨rfl,rfl⟩))) hn.LX.1
 grind [By]
end
def ue(q:fi)(u:qp):fi:={ q with L:=q.L++[u] }
open Classical in
theorem Vl(q:fi)(u:qp)(k t:Int):bC (ue q u) k t=if Eu q.az k t then bU else fy (fy (jB q.S.aj k) (aR q.L k t)) (jv u k t):=by
 unfold bC ue;dsimp only;by_cases h:Eu q.az k t
 ·simp_all
 ·rw[if_neg h,if_neg h,nA,Ih]
theorem mulR_le{n:Int}{need v:aE}(hn:0<=n)(a:aO need)(h:s_ (mulR n need) v\/n=0)(b:aO v):s_ (mulR n need) v:=by
 rcases h with h | h
 ·exact h
 ·intro c
  grind [wW,CH]
theorem VV{nodes:List (List bP)}{q:fi}{L:Nat}(hL:L<=200)(hq:km q)(hp:PR nodes q L){cO a:Int}{sh:List cM}{need:aE}(hs:bo sh q.S.aj.length)(hn:aO need)(hw:1<=a/\a<=65536)(A:q.aP<=cO)(Y:cO<=1099511627776)
  (d:∀(k:Nat)(h:k<q.S.aj.length) t,cO<=t->t<cO+a->s_ (mulR (dO sh k) need) (bC q k t)) :
  ∃b,zbd 5000 nodes cO sh need a q.aP=some (b,0)/\PR b (ue q { bJ:=cO,To:=cO+a,aw:=need,ai:=sh }) (L+2):=by
 have i:=hp.len;have nn:=hq.spec.nodes.hi;have E:=hq.now;have sl:sh.length<=300:=by have:=rU hs (by omega);omega
 obtain ⟨Z,G,K⟩:=oJ sh nodes.length sl;have:=K.2 (by simp_all);subst this;obtain ⟨r2,M,N⟩:=Vj need;have:=N.2 hn;subst this;obtain ⟨r,e,O,P,p⟩:=C_ (by omega) hp.cO (by omega) (by simp_all) sl hn A (show cO<cO+a by omega) (by omega) λk hk t v ta tb Q=>by
  rw[(hp.iff hk (by omega)).1 Q]
  grind
 refine ⟨r.1,?_,?_⟩
 ·unfold zbd;rw[fN,if_neg (by simp_all),G,ay,if_neg (by simp),M,ay];have R:decide (a<1)=false:=by simp_all
  have U:decide (a > 65536)=false:=by simp_all
  dsimp only;rw[R,U,if_neg (by simp),wr (x:=cO+a) (by omega) (by omega),e,ay,O]
 ·refine ⟨by rw[P,i];rfl,⟨λk hk=>?_,λk hk W=>?_⟩,λk hk t X=>?_⟩
  ·have T:=p k (by omega) hk;exact ⟨T.ok,by have:=T.len;have:=(hp.cO.each k (by omega)).2;omega⟩
  ·have T:=p k (by omega) hk;have z:=(hp.cO.each k (by omega)).1.ne;rw[T.first z W,hp.cO.first k (by omega) z];rfl
  ·have n:k<nodes.length:=by omega
   have T:=p k n hk;have u:q.aP<=t:=X;have v:=T.val t _ (hp.val k n t u);rw[Vl];by_cases g:cO<=t/\t<cO+a
   ·rw[if_pos g] at v;have y:jv { bJ:=cO,To:=cO+a,aw:=need,ai:=sh } k t=mulR (dO sh k) need:=by unfold jv;simp_all
    rw[y];by_cases m:Eu q.az k t
    ·rw[if_pos m];have o:bC q k t=bU:=by unfold bC;simp_all
     have f:=d k (by omega) t g.1 g.2;rw[o] at f v;have:fy bU (mulR (dO sh k) need)=bU:=dX λc=>by
      have h2:=f c;have h3:=hY (sR hs k) (wW.1 hn c)
      grind [Cz,Pw,CH]
     simp_all
    ·rw[if_neg m];have o:bC q k t=fy (jB q.S.aj k) (aR q.L k t):=by unfold bC;simp_all
     simp_all
   ·rw[if_neg g] at v;have y:jv { bJ:=cO,To:=cO+a,aw:=need,ai:=sh } k t=bU:=by unfold jv;grind
    rw[y];by_cases m:Eu q.az k t
    ·rw[if_pos m];have o:bC q k t=bU:=by unfold bC;simp_all
     simp_all
    ·rw[if_neg m];have o:bC q k t=fy (jB q.S.aj k) (aR q.L k t):=by unfold bC;simp_all
     rw[o] at v;have:fy (fy (jB q.S.aj k) (aR q.L k t)) bU=fy (jB q.S.aj k) (aR q.L k t):=dX λc=>by simp only[Cz,Pw];omega
     simp_all
end Go.Plain
end
section
namespace Go.Plain
open Go.Abs
abbrev K3:=Int×Int×Int
def TJ(u v:K3):Prop:=u.1<v.1\/(u.1=v.1/\(u.2.1<v.2.1\/(u.2.1=v.2.1/\u.2.2<v.2.2)))
instance (u v:K3):Decidable (TJ u v):=by unfold TJ;infer_instance
theorem cmp1{N:Nat}(a b:Int):fE N a b=some (if a<b then -1 else if a > b then 1 else 0):=by
 simp only[fE,cmp_isNaN_int,ay];simp;split
 ·rfl
 ·split <;> rfl
theorem cmp3{N:Nat}(E:4<N)(u v:K3):bS (zaC N ([u.1,u.2.1,u.2.2]:List Int) ([v.1,v.2.1,v.2.2]:List Int)) λr=>(r<0↔TJ u v):=by
 obtain ⟨N,rfl⟩:∃M,N=M+5:=⟨N-5,by omega⟩;obtain ⟨a,b,c⟩:=u;obtain ⟨d,e,f⟩:=v;unfold zaC;have o:i64.wrap (0+1)=1:=rfl;have w1:i64.wrap (1+1)=2:=rfl;have w2:i64.wrap (2+1)=3:=rfl;have p:∀x y z:Int,aC [x,y,z] 0=some x:=λ_ _ _=>rfl;have t:∀x y z:Int,aC [x,y,z] 1=some y:=λ_ _ _=>rfl;have A:∀x y z:Int,aC [x,y,z] 2=some z:=λ_ _ _=>rfl;simp only[bD,HI,yBF,cmp1,ay,o,w1,w2,p,t,A,TJ];simp;by_cases g:a<d
 ·rw[if_pos g];simp[bm];omega
 ·rw[if_neg g];by_cases h:d<a
  ·rw[if_pos h];simp[bm];omega
  ·rw[if_neg h];by_cases i:b<e
   ·rw[if_pos i];simp[bm];omega
   ·rw[if_neg i];by_cases k:e<b
    ·rw[if_pos k];simp[bm];omega
    ·rw[if_neg k];by_cases m:c<f
     ·rw[if_pos m];simp[bm];omega
     ·rw[if_neg m];by_cases n:f<c
      ·rw[if_pos n];simp[bm];omega
      ·rw[if_neg n];simp[bm];omega
def SL(p:List K3)(x:Int):K3:=p.getD x.toNat (0,0,0)
def Tc(p:List K3)(x:Int):Prop:=0<=x/\x<p.length
theorem Zl{p:List K3}{x:Int}(h:Tc p x):aC p x=some (SL p x):=by obtain ⟨a,e⟩:=Hb h.1 h.2;rw[e,SL,yAY,eO a];rfl
theorem DX{N:Nat}(d:4<N){p:List K3}{x y:Int}(e:Tc p x)(f:Tc p y) :
  bS ((aC p x).bind λa=>(aC p y).bind λb=>(zaC N ([a.1,a.2.1,a.2.2]:List Int) ([b.1,b.2.1,b.2.2]:List Int)).bind λr=>some r) λr=>(r<0↔TJ (SL p x) (SL p y)):=by
 rw[Zl e,Zl f,ay,ay];exact (cmp3 d _ _).bind λr g=>bm.2 g
theorem dV{α:Type}{L R:List α}{y:α}{i:Int}(h:i=L.length):aC (L++y::R) i=some y:=by subst h;rw[cf (by simp)];simp
theorem jI{α:Type}{L R:List α}{y z:α}{i:Int}(h:i=L.length):(L++y::R).set i.toNat z=L++z::R:=by subst h;simp
theorem Cn{x y:Int}(h:x=y)(a:-9000000<=y)(b:y<9000000):i64.wrap x=y:=by rw[wr (by omega) (by omega)];exact h
theorem up_ok{N:Nat}{L V R:List Int}{y:Int}{k E:Int}(hk:k=L.length)(t:E=L.length+V.length)(O:V.length<N)(hs:(L++y::V++R).length<=1000) :
  bD (λh (d:Int×List Int)=>
     if (decide (d.1<E))=true then
      (aC d.2 (i64.wrap (d.1+1))).bind λe=>
      (aC d.2 d.1).bind λi=>
      (aC d.2 d.1).bind λu=>
      (aC (d.2.set d.1.toNat e) (i64.wrap (d.1+1))).bind λz=>
      h ((i64.wrap (d.1+1)),((d.2.set d.1.toNat e).set (i64.wrap (d.1+1)).toNat i))
     else
      some d.2) N (k,L++y::V++R)=some (L++V++y::R):=by
 apply bS.eq;simp only[Br,HI] at hs;refine lpM (I:=λx=>∃b g,x=((b.length:Int),b++y::g++R)/\b++g=L++V/\E=b.length+g.length) (m:=λx=>(E-x.1).toNat) (λx f A G=>?_) ⟨L,V,by rw[hk],rfl,t⟩ (by omega);obtain ⟨b,g,rfl,n,o⟩:=A;have p:=IX List.length n;simp only[Br] at p;cases g with
 |nil=>simp only[yBF] at o;rw[if_neg (by simp;omega),bm,<-n];simp
 |cons v a=>
  simp only[HI] at o p;have w:i64.wrap ((b.length:Int)+1)=((b++[y]).length:Nat):=Cn (by simp) (by simp;omega) (by simp;omega);have K:b++y::v::a++R=(b++[y])++v::(a++R):=by simp
  have r:b++y::v::a++R=b++y::(v::a++R):=by simp
  have M:b++v::(v::a++R)=(b++[v])++v::(a++R):=by simp
  simp only;rw[if_pos (by simp;omega),w,show aC (b++y::v::a++R) ((b++[y]).length:Nat)=some v from by rw[K];exact dV rfl,Dw,
   show aC (b++y::v::a++R) (b.length:Int)=some y from by rw[r];exact dV rfl,Option.bind_some,Option.bind_some,r,jI rfl,M,dV (by simp),Option.bind_some,jI (by simp)]
  refine G _ ⟨b++[v],a,by simp,by rw[<-n];simp,by simp;omega⟩ (by simp;omega)
theorem dn_ok{N:Nat}{L V R:List Int}{y:Int}{k E:Int}(hk:k=L.length+V.length)(G:E=L.length)(K:V.length<N)(hs:(L++V++y::R).length<=1000) :
  bD (λi (a:Int×List Int)=>
      if (decide (a.1 > E))=true then
       (aC a.2 (i64.wrap (a.1-1))).bind λe=>
       (aC a.2 a.1).bind λn=>
       (aC a.2 a.1).bind λp=>
       (aC (a.2.set a.1.toNat e) (i64.wrap (a.1-1))).bind λr=>
       i ((i64.wrap (a.1-1)),((a.2.set a.1.toNat e).set (i64.wrap (a.1-1)).toNat n))
      else
       some a.2) N (k,L++V++y::R)=some (L++y::V++R):=by
 apply bS.eq;simp only[Br,HI] at hs;refine lpM (I:=λx=>∃g d,x=(((L++g).length:Int),L++g++y::d)/\g++d=V++R) (m:=λx=>(x.1-E).toNat) (λx f t u=>?_) ⟨V,R,by rw[hk];simp,rfl⟩ (by simp;omega);obtain ⟨g,d,rfl,h⟩:=t;have o:=IX List.length h;simp only[Br] at o;rcases List.eq_nil_or_concat g with rfl | ⟨b,v,rfl⟩
 ·rw[if_neg (by simp;omega),bm];simp at h;rw[h];simp
 ·simp only[yCl,Br,HI,yBF] at o h ⊢;have w:i64.wrap (((L.length+(b.length+(0+1)):Nat):Int)-1)=((L++b).length:Nat):=Cn (by simp;omega) (by simp;omega) (by simp;omega);have z:L++(b++[v])++y::d=(L++b)++v::(y::d):=by simp
  have M:L++(b++[v])++y::d=(L++(b++[v]))++y::d:=rfl;have A:(L++(b++[v]))++v::d=(L++b)++v::(v::d):=by simp
  rw[if_pos (by simp;omega),w,show aC (L++(b++[v])++y::d) ((L++b).length:Nat)=some v from by rw[z];exact dV rfl,Dw,
   dV (by simp),Option.bind_some,Option.bind_some,jI (by simp),A,dV (by simp),Option.bind_some,jI (by simp)]
  refine u _ ⟨b,v::d,by simp,by rw[<-h];simp⟩ (by simp;omega)
theorem Zk{N:Nat}{L U M V R:List Int}{a b n:Int}(ha:a=L.length)(hb:b=L.length+U.length+M.length)(hn:n=U.length)(E:V.length=U.length)(hN:U.length<N)(hs:(L++U++M++V++R).length<=1000) :
  bD (λr (d:Int×List Int)=>
          if (decide (d.1<n))=true then
           (aC d.2 (i64.wrap (b+d.1))).bind λp=>
           (aC d.2 (i64.wrap (a+d.1))).bind λt=>
           (aC d.2 (i64.wrap (a+d.1))).bind λG=>
           (aC (d.2.set (i64.wrap (a+d.1)).toNat p) (i64.wrap (b+d.1))).bind λK=>
           r ((i64.wrap (d.1+1)),((d.2.set (i64.wrap (a+d.1)).toNat p).set (i64.wrap (b+d.1)).toNat t))
          else
           some d.2) N (0,L++U++M++V++R)=some (L++V++M++U++R):=by
 apply bS.eq;simp only[Br] at hs;refine lpM (I:=λx=>∃h k i o,x=((U.length:Int)-k.length,h++k++i++o++R)/\h++o++i++k++R=L++V++M++U++R/\o.length=k.length/\k.length<=U.length/\(h.length:Int)=a+U.length-k.length/\(h.length:Int)+k.length+i.length=b+U.length-k.length)
  (m:=λx=>(n-x.1).toNat) (λx f O P=>?_) ⟨L,U,M,V,by simp,rfl,E,by omega,by omega,by omega⟩ (by omega)
 obtain ⟨h,k,i,o,rfl,y,z,Q,T,W⟩:=O;cases k with
 |nil=>
  cases o with
  |nil=>rw[if_neg (by simp;omega),bm,<-y]
  |cons=>simp at z
 |cons u e=>
  cases o with
  |nil=>simp at z
  |cons v g=>
   simp only[HI] at z Q T W;have X:=IX List.length y;simp only[Br,HI] at X;have Y:i64.wrap (a+((U.length:Int)-((u::e).length:Nat)))=(h.length:Nat):=Cn (by simp;omega) (by omega) (by omega);have Z:i64.wrap (b+((U.length:Int)-((u::e).length:Nat)))=((h++u::e++i).length:Nat):=Cn (by simp;omega) (by simp;omega) (by simp;omega);have wc:i64.wrap (((U.length:Int)-((u::e).length:Nat))+1)=(U.length:Int)-(e.length:Nat):=Cn (by simp;omega) (by omega) (by omega);have e1:h++u::e++i++v::g++R=(h++u::e++i)++v::(g++R):=by simp
   have A:h++u::e++i++v::g++R=h++u::(e++i++v::g++R):=by simp
   have e3:h++v::(e++i++v::g++R)=(h++v::e++i)++v::(g++R):=by simp
   simp only;rw[if_pos (by simp;omega),Y,Z,wc,show aC (h++u::e++i++v::g++R) ((h++u::e++i).length:Nat)=some v from by rw[e1];exact dV rfl,Dw,
    show aC (h++u::e++i++v::g++R) (h.length:Nat)=some u from by rw[A];exact dV rfl,Option.bind_some,Option.bind_some,A,jI rfl,e3,dV (by simp),Option.bind_some,jI (by simp)]
   refine P _ ⟨h++[v],e,i++[u],g,by simp,by rw[<-y];simp,by omega,by omega,by simp;omega,by simp;omega⟩ (by simp;omega)
theorem Yq{R:Type}{b:(Int×Int->Option R)->Int×Int->Option R}{Q:R->Prop}{a hi N:Nat}(G:Nat->Prop)(h:a<=hi)(v:hi<N)
  (hs:∀f (s r:Nat),a<=s->s<r->r<=hi->(G ((s+r) / 2)->bS (f (((((s+r) / 2:Nat):Int)+1),(r:Int))) Q)->(¬G ((s+r) / 2)->bS (f ((s:Int),(((s+r) / 2:Nat):Int))) Q)->bS (b f ((s:Int),(r:Int))) Q)
  (o:∀f (s:Nat),a<=s->s<=hi->(s=a\/G (s-1))->(s=hi\/¬G s)->bS (b f ((s:Int),(s:Int))) Q):bS (bD b N ((a:Int),(hi:Int))) Q:=by
 refine lpM (I:=λx=>∃s r:Nat,x=((s:Int),(r:Int))/\a<=s/\s<=r/\r<=hi/\(s=a\/G (s-1))/\(r=hi\/¬G r)) (m:=λx=>(x.2-x.1).toNat) (λx f p i=>?_) ⟨a,hi,rfl,by omega,h,by omega,.inl rfl,.inl rfl⟩ (by simp;omega);obtain ⟨s,r,rfl,d,t,e,k,n⟩:=p;rcases YH t with u | rfl
 ·refine hs f s r d u e (λg=>i _ ⟨(s+r) / 2+1,r,by simp,by omega,by omega,e,.inr (by simpa using g),n⟩ (by simp;omega)) (λg=>i _ ⟨s,(s+r) / 2,rfl,d,by omega,by omega,k,.inr g⟩ (by simp;omega))
 ·exact o f s d e k n
theorem rX{R:Type}{a b:Nat}{o:Option R}(h:a=b):DF a b o=o:=by subst h;simp[DF]
theorem rot_ok{N:Nat}{L U V R:List Int}{m i j:Int}(hm:m=L.length+U.length)(hi:i=U.length)(hj:j=V.length)(hU:0<U.length)(hV:0<V.length)(hN:U.length+V.length<N)(hs:(L++U++V++R).length≤1000) :
    bD (fun u (d:Int×Int×List Int)=>
               if (d.1 != d.2.1)=true then
                 if (decide (d.1 > d.2.1))=true then
                   (
                     bD (fun P (k:Int×List Int)=>
                       if (decide (k.1<d.2.1))=true then
                         (aC k.2 (i64.wrap (m+k.1))).bind fun v=>
                         (aC k.2 (i64.wrap ((i64.wrap (m-d.1))+k.1))).bind fun Q=>
                         (aC k.2 (i64.wrap ((i64.wrap (m-d.1))+k.1))).bind fun aa=>
                         (aC (k.2.set (i64.wrap ((i64.wrap (m-d.1))+k.1)).toNat v) (i64.wrap (m+k.1))).bind fun ab=>
                         P ((i64.wrap (k.1+1)),((k.2.set (i64.wrap ((i64.wrap (m-d.1))+k.1)).toNat v).set (i64.wrap (m+k.1)).toNat Q))
                       else
                         some k.2) N (0,d.2.2)).bind fun y=>
                   DF d.2.2.length y.length <|
                   u ((i64.wrap (d.1-d.2.1)),d.2.1,y)
                 else
                   (
                     bD (fun T (o:Int×List Int)=>
                       if (decide (o.1<d.1))=true then
                         (aC o.2 (i64.wrap ((i64.wrap ((i64.wrap (m+d.2.1))-d.1))+o.1))).bind fun z=>
                         (aC o.2 (i64.wrap ((i64.wrap (m-d.1))+o.1))).bind fun W=>
                         (aC o.2 (i64.wrap ((i64.wrap (m-d.1))+o.1))).bind fun ad=>
                         (aC (o.2.set (i64.wrap ((i64.wrap (m-d.1))+o.1)).toNat z) (i64.wrap ((i64.wrap ((i64.wrap (m+d.2.1))-d.1))+o.1))).bind fun af=>
                         T ((i64.wrap (o.1+1)),((o.2.set (i64.wrap ((i64.wrap (m-d.1))+o.1)).toNat z).set (i64.wrap ((i64.wrap ((i64.wrap (m+d.2.1))-d.1))+o.1)).toNat W))
                       else
                         some o.2) N (0,d.2.2)).bind fun A=>
                   DF d.2.2.length A.length <|
                   u (d.1,(i64.wrap (d.2.1-d.1)),A)
               else
                 (
                   bD (fun X (p:Int×List Int)=>
                     if (decide (p.1<d.1))=true then
                       (aC p.2 (i64.wrap (m+p.1))).bind fun E=>
                       (aC p.2 (i64.wrap ((i64.wrap (m-d.1))+p.1))).bind fun Y=>
                       (aC p.2 (i64.wrap ((i64.wrap (m-d.1))+p.1))).bind fun ak=>
                       (aC (p.2.set (i64.wrap ((i64.wrap (m-d.1))+p.1)).toNat E) (i64.wrap (m+p.1))).bind fun an=>
                       X ((i64.wrap (p.1+1)),((p.2.set (i64.wrap ((i64.wrap (m-d.1))+p.1)).toNat E).set (i64.wrap (m+p.1)).toNat Y))
                     else
                       some p.2) N (0,d.2.2)).bind fun Z=>
                 some Z) N (i,j,L++U++V++R)=some (L++V++U++R):=by
  apply bS.eq
  simp only [Br] at hs
  refine lpM (I:=fun x=>∃r h g t,x=((h.length:Int),(g.length:Int),r++h++g++t)/\r++g++h++t=L++V++U++R/\m=r.length+h.length/\0<h.length/\0<g.length/\h.length≤U.length/\g.length≤V.length) (m:=fun x=>(x.1+x.2.1).toNat) (fun x f hI hr=>?_) ⟨L,U,V,R,by rw [hi,hj],rfl,hm,hU,hV,by omega,by omega⟩ (by simp; omega)
  obtain ⟨r,h,g,t,rfl,O,h2,h3,h4,h5,h6⟩:=hI
  have hl:=IX List.length O
  simp only [Br] at hl
  have wa:i64.wrap (m-(h.length:Int))=(r.length:Int):=Cn (by omega) (by omega) (by omega)
  simp only [wa]
  by_cases e:h.length=g.length
  · rw [if_neg (by simp [e])]
    have:=Zk (N:=N) (L:=r) (U:=h) (M:=[]) (V:=g) (R:=t) (a:=r.length) (b:=m) (n:=h.length) rfl (by simp; omega) rfl e.symm (by omega) (by simp; omega)
    simp only [DZ] at this
    rw [this,ay,bm,O]
  · rw [if_pos (by simp; omega)]
    by_cases e2:g.length<h.length
    · rw [if_pos (by simp; omega)]
      have G:h=h.take g.length++h.drop g.length:=(OJ _ _).symm
      have:=Zk (N:=N) (L:=r) (U:=h.take g.length) (M:=h.drop g.length) (V:=g) (R:=t) (a:=r.length) (b:=m) (n:=g.length) rfl (by simp; omega) (by simp; omega) (by simp; omega) (by simp; omega) (by simp; omega)
      rw [zd r (h.take _),←G] at this
      rw [this,ay,rX (by simp; omega),show i64.wrap ((h.length:Int)-g.length)=((h.drop g.length).length:Int) from Cn (by simp; omega) (by omega) (by simp; omega)]
      refine hr _ ⟨r++g,h.drop g.length,h.take g.length,t,by simp; omega,?_,by simp; omega,by simp; omega,by simp; omega,by simp; omega,by simp; omega⟩ (by simp; omega)
      rw [←O]
      conv=>rhs; rw [G]
      simp
    · rw [if_neg (by simp; omega)]
      have K:g=g.take (g.length-h.length)++g.drop (g.length-h.length):=(OJ _ _).symm
      have wb:i64.wrap (m+(g.length:Int))=m+g.length:=Cn rfl (by omega) (by omega)
      have wc:i64.wrap (m+(g.length:Int)-h.length)=m+g.length-h.length:=Cn rfl (by omega) (by omega)
      have:=Zk (N:=N) (L:=r) (U:=h) (M:=g.take (g.length-h.length)) (V:=g.drop (g.length-h.length)) (R:=t) (a:=r.length) (b:=m+g.length-h.length) (n:=h.length) rfl (by simp; omega) rfl (by simp; omega) (by omega) (by simp; omega)
      rw [zd (r++h) (g.take _),←K] at this
      simp only [wb,wc]
      rw [this,ay,rX (by simp; omega),show i64.wrap ((g.length:Int)-h.length)=((g.take (g.length-h.length)).length:Int) from Cn (by simp; omega) (by omega) (by simp; omega)]
      refine hr _ ⟨r,g.drop (g.length-h.length),g.take (g.length-h.length),h++t,by simp; omega,?_,by simp; omega,by simp; omega,by simp; omega,by simp; omega,by simp; omega⟩ (by simp; omega)
      rw [←O]
      conv=>rhs; rw [K]
      simp
def Dk(p:List K3)(u v:Int):Prop:=¬TJ (SL p v) (SL p u)
def zP(p:List K3)(l:List Int):Prop:=l.Pairwise (Dk p)
theorem Dk.trans{p:List K3}{a b c:Int}(h:Dk p a b)(i:Dk p b c):Dk p a c:=by unfold Dk TJ at *;omega
theorem Dk.refl{p:List K3}{a:Int}:Dk p a a:=by unfold Dk TJ;omega
theorem TJ.le{p:List K3}{a b:Int}(h:TJ (SL p a) (SL p b)):Dk p a b:=by unfold Dk TJ at *;omega
theorem Td{p:List K3}{l:List Int}(h:zP p l){i j:Nat}(a:i<=j)(hj:j<l.length):Dk p (l.getD i 0) (l.getD j 0):=by
 rcases YH a with b | rfl
 ·have:=yBa.1 h i j (by omega) hj b;simpa[yAY,hj,show i<l.length by omega] using this
 ·exact .refl
theorem FY{p:List K3}{l:List Int}(h:zP p l){t:Nat}(d:t<=l.length){y:Int}(a:t=0\/Dk p (l.getD (t-1) 0) y):∀u∈l.take t,Dk p u y:=λu b=>by
 obtain ⟨i,hi,rfl⟩:=jc b;simp only[Dj] at hi;rcases a with rfl | a
 ·omega
 ·have:=Td h (i:=i) (j:=t-1) (by omega) (by omega);rw[RW];have e:l.getD i 0=l[i]'(by omega):=by simp[yAY,show i<l.length by omega]
  rw[<-e];exact this.trans a
theorem Gf{p:List K3}{l:List Int}(h:zP p l){t:Nat}{y:Int}(a:l.length<=t\/Dk p y (l.getD t 0)):∀u∈l.drop t,Dk p y u:=λu b=>by
 obtain ⟨i,hi,rfl⟩:=jc b;simp only[yCb] at hi;rcases a with a | a
 ·omega
 ·have:=Td h (i:=t) (j:=t+i) (by omega) (by omega);rw[yCo];have e:l.getD (t+i) 0=l[t+i]'(by omega):=by simp[yAY,show t+i<l.length by omega]
  rw[<-e];exact a.trans this
theorem zP.NH{p:List K3}{l:List Int}(h:zP p l)(t:Nat):zP p (l.take t):=List.Pairwise.sublist (List.take_sublist _ _) h
theorem zP.Mz{p:List K3}{l:List Int}(h:zP p l)(t:Nat):zP p (l.drop t):=List.Pairwise.sublist (List.drop_sublist _ _) h
theorem SA{p:List K3}{l:List Int}(h:zP p l){t:Nat}(f:t<=l.length){y:Int}(g:t=0\/Dk p (l.getD (t-1) 0) y)(i:l.length<=t\/Dk p y (l.getD t 0)):zP p (l.take t++y::l.drop t):=by
 have a:=FY h f g;have b:=Gf h i;refine Py.2 ⟨h.NH t,yBx.2 ⟨b,h.Mz t⟩,λu e v d=>?_⟩;rcases gE.1 d with rfl | d
 ·exact a u e
 ·exact (a u e).trans (b v d)
theorem kr{L B R:List Int}{t k:Nat}(hk:k=L.length+t)(a:t<B.length):(L++B++R).getD k 0=B.getD t 0:=by subst hk;simp only[yAY];rw[zd,OM (by omega),GI (by omega),yBJ]
theorem KV{l:List Int}{k:Nat}{i:Int}(h:i=(k:Int))(hk:k<l.length):aC l i=some (l.getD k 0):=by subst h;rw[cf hk];simp[yAY,hk]
theorem Ep{p:List K3}{l:List Int}(h:∀x∈l,Tc p x){k:Nat}(hk:k<l.length):Tc p (l.getD k 0):=by
 have:l.getD k 0=l[k]:=by simp[yAY,hk]
 rw[this];exact h _ (bH hk)
theorem EK{X R:Type}{K:X->Option R}{J:(X->Option R)->Option R}{Q:R->Prop}(NK:X->Prop)(a:∀k,(∀x,NK x->bS (k x) Q)->bS (J k) Q)(b:∀x,NK x->bS (K x) Q):bS (jn K J) Q:=a K b
set_option maxHeartbeats 4000000 in
theorem MW{p:List K3}:∀(N:Nat)(P A B S:List Int)(a m b:Int),A≠[]->B≠[]->(P++A++B++S).length<=1000->(∀x∈P++A++B++S,Tc p x)->A.length+B.length+1100<=N ->
  a=P.length->m=P.length+A.length->b=P.length+A.length+B.length ->
  bS (zbb N (P++A++B++S) a m b p) λr=>∃C,r=P++C++S/\C.Perm (A++B)/\(zP p A->zP p B->zP p C):=by
 intro N;induction N with
 |zero=>intro P A B S a m b _ _ _ _ h;omega
 |succ N ih=>
  intro P A B S a m b hA hB hl M hN ha hm hb;have a1:0<A.length:=WT.2 hA;have a2:0<B.length:=WT.2 hB;have ak:=hl;simp only[Br] at ak;show bS (if (i64.wrap (m-a) == 1)=true then _ else _) _;rw[bz];have w1:i64.wrap (m-a)=A.length:=Cn (by omega) (by omega) (by omega);have w2:i64.wrap (b-m)=B.length:=Cn (by omega) (by omega) (by omega);rw[w1];refine ⟨λU=>?_,λU=>?_⟩
  ·
   obtain ⟨y,rfl⟩:∃y,A=[y]:=by
    match A,U with
    |[y],_=>exact ⟨y,rfl⟩
    |[],U=>simp at U
    |_::_::_,U=>simp at U;omega
   have hy:aC (P++[y]++B++S) a=some y:=by rw[show P++[y]++B++S=P++y::(B++S) by simp];exact dV ha
   have an:Tc p y:=M y (by simp);simp only[HI,yBF] at hm hb ak hN;obtain ⟨z,rfl⟩:∃z:Nat,m=z:=⟨P.length+1,by omega⟩;obtain ⟨Q,rfl⟩:∃Q:Nat,b=Q:=⟨P.length+1+B.length,by omega⟩;refine Yq (λh=>TJ (SL p ((P++[y]++B++S).getD h 0)) (SL p y)) (by omega) (by omega) (λf s r W X o hg hn=>?_) (λf s W X o E=>?_)
   ·have O:(s+r) / 2<(P++[y]++B++S).length:=by simp;omega
    simp only;rw[if_pos (by simp;omega),mid (by omega),KV rfl O,ay,hy,ay,Cn (x:=(((s+r) / 2:Nat):Int)+1) rfl (by omega) (by omega)];refine (DX (by omega) (Ep M O) an).bind λr T=>?_;rw[bz];exact ⟨λh=>hg (T.1 (by simpa using h)),λh=>hn λg=>h (by simpa using T.2 g)⟩
   ·simp only;rw[if_neg (by simp)];have ht:s-z<=B.length:=by omega
    have ax:B=B.take (s-z)++B.drop (s-z):=(OJ _ _).symm;have e:P++[y]++B++S=P++y::B.take (s-z)++(B.drop (s-z)++S):=by simp only[zd,LH,BM];rw[<-zd (List.take _ _) (List.drop _ _) S,OJ]
    rw[Cn (x:=(s:Int)-1) (y:=(P.length:Int)+(B.take (s-z)).length) (by simp;omega) (by omega) (by simp;omega)]
    conv in (P++[y]++B++S)=>rw[e]
    rw[up_ok ha rfl (by simp;omega) (by simp;omega),bm];refine ⟨B.take (s-z)++y::B.drop (s-z),by simp,?_,λ_ hb=>SA hb ht ?_ ?_⟩
    ·conv=>rhs;rw[ax]
     exact List.perm_middle
    ·rcases o with o | o
     ·left;omega
     ·by_cases Y:s-z=0
      ·exact .inl Y
      ·right;rw[kr (L:=P++[y]) (B:=B) (R:=S) (t:=s-z-1) (by simp;omega) (by omega)] at o;exact o.le
    ·rcases E with E | E
     ·left;omega
     ·by_cases Y:B.length<=s-z
      ·exact .inl Y
      ·right;rw[kr (L:=P++[y]) (B:=B) (R:=S) (t:=s-z) (by simp;omega) (by omega)] at E;exact E
  ·rw[bz,w2];refine ⟨λh2=>?_,λh2=>?_⟩
   ·
    obtain ⟨y,rfl⟩:∃y,B=[y]:=by
     match B,h2 with
     |[y],_=>exact ⟨y,rfl⟩
     |[],U=>simp at U
     |_::_::_,U=>simp at U;omega
    have hy:aC (P++A++[y]++S) m=some y:=by rw[show P++A++[y]++S=(P++A)++y::S by simp];exact dV (by simp;omega)
    have an:Tc p y:=M y (by simp);simp only[HI,yBF] at hm hb ak hN;obtain ⟨K,rfl⟩:∃K:Nat,a=K:=⟨P.length,by omega⟩;obtain ⟨z,rfl⟩:∃z:Nat,m=z:=⟨P.length+A.length,by omega⟩;refine Yq (λh=>¬TJ (SL p y) (SL p ((P++A++[y]++S).getD h 0))) (by omega) (by omega) (λf s r W X o hg hn=>?_) (λf s W X o E=>?_)
    ·have O:(s+r) / 2<(P++A++[y]++S).length:=by simp;omega
     simp only;rw[if_pos (by simp;omega),mid (by omega),hy,ay,KV rfl O,ay,Cn (x:=(((s+r) / 2:Nat):Int)+1) rfl (by omega) (by omega)];refine (DX (by omega) an (Ep M O)).bind λr T=>?_;rw[bz];refine ⟨λh=>hg λg=>?_,λh=>hn λg=>?_⟩
     ·have:=T.2 g;simp at h;omega
     ·simp at h;exact g (T.1 h)
    ·simp only;rw[if_neg (by simp)];have ht:s-K<=A.length:=by omega
     have av:A=A.take (s-K)++A.drop (s-K):=(OJ _ _).symm;have e:P++A++[y]++S=(P++A.take (s-K))++A.drop (s-K)++y::S:=by
      conv=>lhs;rw[av]
      simp
     conv in (P++A++[y]++S)=>rw[e]
     rw[dn_ok (by simp;omega) (by simp;omega) (by simp;omega) (by simp;omega),bm];refine ⟨A.take (s-K)++y::A.drop (s-K),by simp,?_,λhb _=>SA hb ht ?_ ?_⟩
     ·conv=>rhs;rw[av]
      simp only[zd];exact yBS _ (yBG (l₁:=[y]))
     ·rcases o with o | o
      ·left;omega
      ·by_cases Y:s-K=0
       ·exact .inl Y
       ·right;rw[show P++A++[y]++S=P++A++([y]++S) by simp,kr (L:=P) (B:=A) (t:=s-K-1) (by omega) (by omega)] at o;exact o
     ·rcases E with E | E
      ·left;omega
      ·by_cases Y:A.length<=s-K
       ·exact .inl Y
       ·right;rw[show P++A++[y]++S=P++A++([y]++S) by simp,kr (L:=P) (B:=A) (t:=s-K) (by omega) (by omega)] at E;exact (Classical.not_not.1 E).le
   ·
    have av:2<=A.length:=by
     rcases th A.length 2 with h | h
     ·exact absurd (show ((A.length:Int) == 1)=true by simp;omega) U
     ·exact h
    have ax:2<=B.length:=by
     rcases th B.length 2 with h | h
     ·exact absurd (show ((B.length:Int) == 1)=true by simp;omega) h2
     ·exact h
    obtain ⟨K,rfl⟩:∃K:Nat,a=K:=⟨P.length,by omega⟩;obtain ⟨z,rfl⟩:∃z:Nat,m=z:=⟨P.length+A.length,by omega⟩;obtain ⟨Q,rfl⟩:∃Q:Nat,b=Q:=⟨P.length+A.length+B.length,by omega⟩;have ab:=mid (i:=K) (j:=Q) (by omega);obtain ⟨G,a0⟩:∃G,G=(K+Q) / 2:=⟨_,rfl⟩;rw[<-a0] at ab;simp only[ab];have wn:i64.wrap ((G:Int)+(z:Int))=((G+z:Nat):Int):=Cn (by simp) (by omega) (by omega);simp only[wn];have a5:(P++A++B++S).length=P.length+A.length+B.length+S.length:=by simp;omega
    refine EK (λx=>∃lo hi:Nat,x=((lo:Int),(hi:Int))/\lo<=hi/\hi<=G/\hi<=z/\K<=lo/\G+z<=Q+lo/\(lo=K\/G+z=Q+lo)/\(hi=z\/hi=G)) (λk hk=>?_) ?_
    ·rw[bz];refine ⟨λh=>hk _ ⟨G+z-Q,G,?_,?_⟩,λh=>hk _ ⟨K,z,rfl,?_⟩⟩
     ·rw[Cn (x:=((G+z:Nat):Int)-(Q:Int)) (y:=((G+z-Q:Nat):Int)) (by simp at h;omega) (by omega) (by omega)]
     ·simp at h;omega
     ·simp at h;omega
    ·rintro _ ⟨lo,hi,rfl,q1,q2,q3,q4,q5,q6,q7⟩;refine Yq (λc=>¬TJ (SL p ((P++A++B++S).getD (G+z-1-c) 0)) (SL p ((P++A++B++S).getD c 0))) q1 (by omega) (λf s r W X o hg hn=>?_) (λf s W X o E=>?_)
     ·have O:(s+r) / 2<(P++A++B++S).length:=by omega
      have ad:G+z-1-(s+r) / 2<(P++A++B++S).length:=by omega
      have wp:i64.wrap (((G+z:Nat):Int)-1)=((G+z-1:Nat):Int):=Cn (by omega) (by omega) (by omega);simp only;rw[if_pos (by simp;omega),mid (by omega),wp,Cn (x:=((G+z-1:Nat):Int)-(((s+r) / 2:Nat):Int)) (y:=((G+z-1-(s+r) / 2:Nat):Int)) (by omega) (by omega) (by omega),KV rfl ad,ay,KV rfl O,ay,Cn (x:=(((s+r) / 2:Nat):Int)+1) rfl (by omega) (by omega)];refine (DX (by omega) (Ep M ad) (Ep M O)).bind λr T=>?_;rw[bz];refine ⟨λh=>hg λg=>?_,λh=>hn λg=>?_⟩
      ·have:=T.2 g;simp at h;omega
      ·simp at h;exact g (T.1 h)
     ·simp only;rw[if_neg (by simp)];have we:i64.wrap (((G+z:Nat):Int)-(s:Int))=((G+z-s:Nat):Int):=Cn (by omega) (by omega) (by omega);simp only[we];obtain ⟨d,a6⟩:∃d,d=s-K:=⟨_,rfl⟩;obtain ⟨n,a7⟩:∃n,n=G-s:=⟨_,rfl⟩;have la:d<=A.length:=by omega
      have lb:n<=B.length:=by omega
      have eA:A=A.take d++A.drop d:=(OJ _ _).symm;have eB:B=B.take n++B.drop n:=(OJ _ _).symm;have a8:(A.take d).length=d:=by simp;omega
      have a9:(A.drop d).length=A.length-d:=by simp
      have bb:(B.take n).length=n:=by simp;omega
      have bc:(B.drop n).length=B.length-n:=by simp
      have f1:d=0\/B.length<=n\/Dk p (A.getD (d-1) 0) (B.getD n 0):=by
       by_cases Y:d=0
       ·exact .inl Y
       by_cases Z:B.length<=n
       ·exact .inr (.inl Z)
       rcases o with o | o
       ·omega
       rw[kr (L:=P++A) (B:=B) (R:=S) (t:=n) (by simp;omega) (by omega),show P++A++B++S=P++A++(B++S) by simp,kr (L:=P) (B:=A) (t:=d-1) (by omega) (by omega)] at o;exact .inr (.inr o)
      have f2:n=0\/A.length<=d\/Dk p (B.getD (n-1) 0) (A.getD d 0):=by
       by_cases Y:n=0
       ·exact .inl Y
       by_cases Z:A.length<=d
       ·exact .inr (.inl Z)
       rcases E with E | E
       ·omega
       rw[kr (L:=P++A) (B:=B) (R:=S) (t:=n-1) (by simp;omega) (by omega),show P++A++B++S=P++A++(B++S) by simp,kr (L:=P) (B:=A) (t:=d) (by omega) (by omega)] at E;exact .inr (.inr (Classical.not_not.1 E).le)
      refine EK (λx=>x=P++A.take d++B.take n++A.drop d++B.drop n++S) (λk hk=>?_) ?_
      ·rw[bz];refine ⟨λh=>?_,λh=>hk _ ?_⟩
       ·simp only[bI,bB] at h;have e:P++A++B++S=(P++A.take d)++A.drop d++B.take n++(B.drop n++S):=by
         simp only[zd];rw[<-zd (B.take n) (B.drop n) S,OJ,<-zd (A.take d) (A.drop d),OJ]
        conv in (P++A++B++S)=>rw[e]
        rw[rot_ok (by simp;omega) (by rw[Cn rfl (by omega) (by omega)];omega) (by rw[Cn rfl (by omega) (by omega)];omega) (by omega) (by omega) (by omega) (by simp;omega),Dw,rX (by rw[e];simp;omega)];exact hk _ (by simp)
       ·simp only[bI,bB,yBU] at h;rcases h with h | h
        ·have:A.drop d=[]:=by rw[<-yBe];omega
         have e2:A.take d=A:=by rw[this] at eA;simpa using eA.symm
         rw[this,e2]
         conv=>lhs;rw[eB]
         simp
        ·have:B.take n=[]:=by rw[<-yBe];omega
         have e2:B.drop n=B:=by rw[this] at eB;simpa using eB.symm
         rw[this,e2]
         conv=>lhs;rw[eA]
         simp
      ·rintro _ rfl;refine EK (λx=>∃C1,x=P++C1++A.drop d++B.drop n++S/\C1.Perm (A.take d++B.take n)/\(zP p (A.take d)->zP p (B.take n)->zP p C1)) (λk hk=>?_) ?_
       ·rw[bz];refine ⟨λh=>?_,λh=>hk _ ⟨A.take d++B.take n,by simp,.refl _,λZ h4=>?_⟩⟩
        ·simp only[bI,bB] at h;have e:P++A.take d++B.take n++A.drop d++B.drop n++S=P++A.take d++B.take n++(A.drop d++B.drop n++S):=by simp
         have r:=ih P (A.take d) (B.take n) (A.drop d++B.drop n++S) K s G (by rw[<-WT];omega) (by rw[<-WT];omega) (by rw[<-e];simp;omega) (λx hx=>M x (by
          rw[<-e] at hx;simp only[kB] at hx ⊢;rcases hx with ((((h | h) | h) | h) | h) | h
          ·exact .inl (.inl (.inl h))
          ·exact .inl (.inl (.inr (Px h)))
          ·exact .inl (.inr (Px h))
          ·exact .inl (.inl (.inr (yBp h)))
          ·exact .inl (.inr (yBp h))
          ·exact .inr h)) (by omega) ha (by omega) (by omega)
         rw[<-e] at r;refine r.bind λr T=>?_;obtain ⟨C,rfl,Z,h4⟩:=T;have h5:=Z.length_eq;simp only[Br] at h5;rw[rX (by simp;omega)];exact hk _ ⟨C,by simp,Z,h4⟩
        ·simp only[bI,bB,yBU] at h;rcases h with h | h
         ·have:A.take d=[]:=by rw[<-yBe];omega
          rw[this];exact h4
         ·have:B.take n=[]:=by rw[<-yBe];omega
          rw[this,DZ];exact Z
       ·rintro _ ⟨C1,rfl,g1,g2⟩;have lC:=g1.length_eq;simp only[Br] at lC;have aa:∀C2:List Int,C2.Perm (A.drop d++B.drop n)->zP p A->zP p B->∀u∈C1,∀v∈C2,Dk p u v:=λC2 g3 sA sB u hu v M=>by
         have hu:=kB.1 (g1.mem_iff.1 hu);have M:=kB.1 (g3.mem_iff.1 M);rcases hu with hu | hu <;> rcases M with M | M
         ·have:=Py.1 (eA▸sA:zP p (A.take d++A.drop d));exact this.2.2 u hu v M
         ·rcases f1 with f1 | f1 | f1
          ·subst f1;simp at hu
          ·rw[yB9 f1] at M;simp at M
          ·exact Gf sB (.inr (FY sA la (.inr f1) u hu)) v M
         ·rcases f2 with f2 | f2 | f2
          ·rw[f2] at hu;simp at hu
          ·rw[yB9 f2] at M;simp at M
          ·exact Gf sA (.inr (FY sB lb (.inr f2) u hu)) v M
         ·have:=Py.1 (eB▸sB:zP p (B.take n++B.drop n));exact this.2.2 u hu v M
        have af:∀C2:List Int,C2.Perm (A.drop d++B.drop n)->(C1++C2).Perm (A++B):=λC2 g3=>by
         refine (List.Perm.append g1 g3).trans ?_
         conv=>rhs;rw[eA,eB]
         simp only[zd];refine yBS _ ?_;rw[<-zd,<-zd (A.drop d)];exact List.Perm.append_right _ yBG
        rw[bz];refine ⟨λh=>?_,λh=>bm.2 ⟨C1++(A.drop d++B.drop n),by simp,af _ (.refl _),λsA sB=>?_⟩⟩
        ·simp only[bI,bB] at h;have e:P++C1++A.drop d++B.drop n++S=(P++C1)++A.drop d++B.drop n++S:=rfl;have r:=ih (P++C1) (A.drop d) (B.drop n) S G ((G+z-s:Nat):Int) Q (by rw[<-WT];omega) (by rw[<-WT];omega) (by simp;omega) (λx hx=>M x (by
          simp only[kB] at hx ⊢;rcases hx with (((h | h) | h) | h) | h
          ·exact .inl (.inl (.inl h))
          ·rcases kB.1 (g1.mem_iff.1 h) with h | h
           ·exact .inl (.inl (.inr (Px h)))
           ·exact .inl (.inr (Px h))
          ·exact .inl (.inl (.inr (yBp h)))
          ·exact .inl (.inr (yBp h))
          ·exact .inr h)) (by omega) (by simp;omega) (by simp;omega) (by simp;omega)
         refine r.bind λr T=>?_;obtain ⟨C2,rfl,Z,h4⟩:=T;refine bm.2 ⟨C1++C2,by simp,af _ Z,λsA sB=>?_⟩;exact Py.2 ⟨g2 (sA.NH _) (sB.NH _),h4 (sA.Mz _) (sB.Mz _),aa _ Z sA sB⟩
        ·refine Py.2 ⟨g2 (sA.NH _) (sB.NH _),?_,aa _ (.refl _) sA sB⟩;simp only[bI,bB,yBU] at h;rcases h with h | h
         ·have:A.drop d=[]:=by rw[<-yBe];omega
          rw[this];exact sB.Mz _
         ·have:B.drop n=[]:=by rw[<-yBe];omega
          rw[this,DZ];exact sA.Mz _
end Go.Plain
end
section
namespace Go.Plain
open Go.Abs
theorem rW{X R:Type}{b:(X->Option R)->X->Option R}{Q:R->Prop}{n:Nat}{x:X}(hn:0<n)(h:∀f,f=bD b (n-1)->bS (b f x) Q):bS (bD b n x) Q:=by obtain ⟨k,rfl⟩:∃k,n=k+1:=⟨n-1,by omega⟩;exact h _ rfl
theorem Rq{p:List K3}{N:Nat}{P A S:List Int}{a E:Int}(ha:a=P.length)(hE:E=P.length+A.length)(hN:1100<=N)(hl:(P++A++S).length<=1000)(O:∀x∈P++A++S,Tc p x) :
  bS (bD (λf8 (Q : Int × List Int)=>
         if (decide (Q.1<E))=true then
          bD (λad (d:Int×List Int)=>
           jn (λ(af:Bool)=>
            if af=true then
             (aC d.2 (i64.wrap (d.1-1))).bind λR=>
             (aC d.2 d.1).bind λak=>
             (aC d.2 d.1).bind λa6=>
             (aC (d.2.set d.1.toNat R) (i64.wrap (d.1-1))).bind λa7=>
             ad ((i64.wrap (d.1-1)),((d.2.set d.1.toNat R).set (i64.wrap (d.1-1)).toNat ak))
            else
             f8 ((i64.wrap (Q.1+1)),d.2)) λW=>
           if (decide (d.1 > a))=true then
           (aC d.2 d.1).bind λan=>
           (aC d.2 (i64.wrap (d.1-1))).bind λav=>
           (
            (aC p an).bind λt=>
            (aC p av).bind λG=>
            (zaC N ([t.1,t.2.1,t.2.2]:List Int) ([G.1,G.2.1,G.2.2]:List Int)).bind λax=>
            some ax).bind λa0=>
           W (decide (a0<0))
           else
           W false) N (Q.1,Q.2)
         else
          some Q.2) N ((i64.wrap (a+1)),P++A++S)) λr=>∃C,r=P++C++S/\C.Perm A/\zP p C:=by
 have a1:=hl;simp only[Br] at a1;rw[Cn (x:=a+1) (y:=a+1) rfl (by omega) (by omega)];refine lpM (I:=λx=>∃C T,x.2=P++C++T++S/\(C++T).Perm A/\zP p C/\x.1=a+(if A=[] then 1 else (C.length:Int))/\(A≠[]->0<C.length)) (m:=λx=>(E+1-x.1).toNat) (λx f hI hr=>?_) ?_ (by simp;omega)
 ·obtain ⟨i,row⟩:=x;obtain ⟨C,T,rfl,hp,hs,hi,h0⟩:=hI;simp only at hi hr ⊢;have n:=hp.length_eq;simp only[Br] at n;by_cases hA:A=[]
  ·subst hA;simp only[if_true,yBF] at hi n hE;rw[if_neg (by simp;omega),bm];have hC:C=[]:=by rw[<-yBe];omega
   have hT:T=[]:=by rw[<-yBe];omega
   subst hC hT;exact ⟨[],by simp,.refl _,hs⟩
  ·rw[if_neg hA] at hi;have a8:=h0 hA;cases T with
   |nil=>simp only[yBF] at n;rw[if_neg (by simp;omega),bm];exact ⟨C,by simp,by simpa using hp,hs⟩
   |cons y T=>
    simp only[HI] at n;rw[if_pos (by simp;omega)];refine lpM (I:=λz=>∃U V,z=(a+(U.length:Int),P++U++y::(V++T++S))/\U++V=C/\∀v∈V,Dk p y v) (m:=λz=>(z.1-a).toNat) (λz g hz a2=>?_) ⟨C,[],by rw[hi];simp,by simp,by simp⟩ (by simp;omega);obtain ⟨U,V,rfl,e,X⟩:=hz;have K:=IX List.length e;simp only[Br] at K;have M:∀x∈P++U++y::(V++T++S),Tc p x:=λx Y=>O x (by
     simp only[kB,gE] at Y ⊢;have o:x∈U\/x∈V\/x=y\/x∈T->x∈A:=λh=>hp.mem_iff.1 (by
      rw[<-e];simp only[kB,gE];rcases h with h | h | h | h
      ·exact .inl (.inl h)
      ·exact .inl (.inr h)
      ·exact .inr (.inl h)
      ·exact .inr (.inr h))
     rcases Y with (h | h) | h | (h | h) | h
     ·exact .inl (.inl h)
     ·exact .inl (.inr (o (.inl h)))
     ·exact .inl (.inr (o (.inr (.inr (.inl h)))))
     ·exact .inl (.inr (o (.inr (.inl h))))
     ·exact .inl (.inr (o (.inr (.inr (.inr h)))))
     ·exact .inr h)
    have done:(∀u∈U,Dk p u y)->bS (f (i64.wrap (i+1),P++U++y::(V++T++S))) (λr=>∃C,r=P++C++S/\C.Perm A/\zP p C):=λhu=>by
     rw[Cn (x:=i+1) rfl (by omega) (by omega)];refine hr _ ⟨U++y::V,T,by simp,?_,?_,?_,λ_=>by simp;omega⟩ (by simp;omega)
     ·refine List.Perm.trans ?_ hp;rw[<-e];have:(U++y::V).Perm (U++V++[y]):=by
       rw[zd];exact yBS _ (yBG (l₁:=[y]))
      have:=this.append_right T;simpa using this
     ·have Z:=Py.1 (e▸hs:zP p (U++V));refine Py.2 ⟨Z.1,yBx.2 ⟨X,Z.2.1⟩,λu h v O=>?_⟩;rcases gE.1 O with rfl | O
      ·exact hu u h
      ·exact Z.2.2 u h v O
     ·rw[if_neg hA];simp;omega
    refine EK (λx=>(x=true->∃b v,U=b++[v]/\Dk p y v)/\(x=false->∀u∈U,Dk p u y)) (λk hk=>?_) (λx Y=>?_)
    ·rw[bz];refine ⟨λh=>?_,λh=>hk _ ⟨by simp,λ_ u hu=>?_⟩⟩
     ·simp at h;rcases List.eq_nil_or_concat U with rfl | ⟨b,v,rfl⟩
      ·simp at h
      simp only[yCl] at M hk h ⊢;simp only[yCl,Br,HI,yBF] at K;have w:i64.wrap (a+((b++[v]).length:Nat)-1)=((P++b).length:Nat):=Cn (by simp;omega) (by simp;omega) (by simp;omega);have e1:P++(b++[v])++y::(V++T++S)=(P++b)++v::(y::(V++T++S)):=by simp
      rw[w,dV (by simp;omega),ay,show aC (P++(b++[v])++y::(V++T++S)) ((P++b).length:Nat)=some v from by rw[e1];exact dV rfl,Dw];refine (DX (by omega) (M y (by simp)) (M v (by simp))).bind λr aa=>hk _ ⟨λh=>⟨b,v,rfl,(aa.1 (by simpa using h)).le⟩,λh u hu=>?_⟩;have ab:Dk p v y:=λg=>by have:=aa.2 g;simp at h;omega
      simp only[yCl] at e;have Z:=Py.1 (e▸hs:zP p ((b++[v])++V));have h2:=Py.1 Z.1;rcases kB.1 hu with hu | hu
      ·exact (h2.2.2 u hu v (by simp)).trans ab
      ·simp at hu;subst hu;exact ab
     ·simp at h;have:U=[]:=by rw[<-yBe];omega
      subst this;simp at hu
    ·rw[bz];refine ⟨λh=>?_,λh=>done (Y.2 (by simpa using h))⟩;obtain ⟨b,v,rfl,a5⟩:=Y.1 h;simp only[Br,HI,yBF] at K;have w:i64.wrap (a+((b++[v]).length:Nat)-1)=((P++b).length:Nat):=Cn (by simp;omega) (by simp;omega) (by simp;omega);have e1:P++(b++[v])++y::(V++T++S)=(P++b)++v::(y::(V++T++S)):=by simp
     have e3:P++(b++[v])++v::(V++T++S)=(P++b)++v::(v::(V++T++S)):=by simp
     simp only;rw[w,show aC (P++(b++[v])++y::(V++T++S)) ((P++b).length:Nat)=some v from by rw[e1];exact dV rfl,Dw,dV (by simp;omega),Dw,Dw,jI (by simp;omega),e3,dV (by simp),Dw,jI (by simp)];refine a2 _ ⟨b,v::V,by simp;omega,by rw[<-e];simp,λu hu=>?_⟩ (by simp;omega);rcases gE.1 hu with rfl | hu
     ·exact a5
     ·exact X u hu
 ·refine ⟨A.take 1,A.drop 1,by simp only[zd];rw[<-zd (A.take 1),OJ],by rw[OJ],?_,?_,?_⟩
  ·cases A with
   |nil=>exact .nil
   |cons=>simp[zP]
  ·cases A <;> simp
  ·intro (h:A≠[]);have:=WT.2 h;simp;omega
def Wj(n:Nat):List Int:=(List.range n).map λ(i:Nat)=>(i:Int)
theorem sS(n:Nat):(Wj n).length=n:=by simp[Wj]
theorem upn_get{n i:Nat}(h:i<n):(Wj n)[i]'(by rw[sS];exact h)=(i:Int):=by simp[Wj]
theorem TY{p:List K3}{x:Int}(h:x∈Wj p.length):Tc p x:=by simp only[Wj,iP,yCd] at h;obtain ⟨i,hi,rfl⟩:=h;exact ⟨by omega,by omega⟩
theorem Tz{α:Type}{z:α}{n:Nat}(h:n<=1000):GH z (n:Int) (n:Int)=some (List.replicate n z):=by unfold GH;simp;omega
theorem Qt{N:Nat}{p:List K3}(hp:p.length<40)(hN:2000<=N):bS (zeZ N p) λr=>r.Perm (Wj p.length)/\zP p r:=by
 unfold zeZ;rw[Tz (by omega),ay];refine jC p.length (λi x=>x=((i:Int),(Wj p.length).take i++List.replicate (p.length-i) 0)) (λi x f hi n b=>?_) (λx f n=>?_) (by simp) (by omega)
 ·subst n;have hl:((Wj p.length).take i).length=i:=by simp[sS];omega
  have e:List.replicate (p.length-i) (0:Int)=0::List.replicate (p.length-(i+1)) 0:=by rw[show p.length-i=(p.length-(i+1))+1 by omega,List.replicate_succ]
  simp only;rw[if_pos (by simp;omega),e,dV (by rw[hl]),Dw,jI (by rw[hl]),bY (by omega)];refine b _ (by rw[List.take_add_one,eO (by rw[sS];exact hi),upn_get hi];simp)
 ·subst n;rw[yBO (by rw[sS];exact cN _),yC4,List.replicate_zero,DZ];simp only;rw[if_neg (by simp),sS];generalize n:Wj p.length=x;have z:x.length=p.length:=by rw[<-n,sS]
  have d:∀a∈x,Tc p a:=λa g=>TY (by rw[n];exact g)
  suffices key:∀o:Option (List Int),(bS o λr=>r.Perm x/\zP p r)->bS ((o.bind λK=>some K).bind λu=>DF p.length u.length<|some u) λr=>r.Perm x/\zP p r by
   refine key _ ?_;have M:i64.wrap (20+20)=40:=rfl;have O:i64.wrap (2 * 20)=40:=rfl;have Q:i64.wrap (20 * 2)=40:=rfl;have R:i64.wrap (0+20)=20:=rfl;by_cases aa:p.length<20
   ·refine rW (by omega) λf y=>?_;simp only;rw[if_neg (by simp;omega)];have X:=Rq (p:=p) (N:=N) (P:=[]) (A:=x) (S:=[]) (a:=0) (E:=p.length) rfl (by simp;omega) (by omega) (by simp;omega) (by simpa using d);rw[BM,DZ] at X;refine X.bind λr b=>?_;obtain ⟨C,rfl,h,t⟩:=b;rw[rX (by simpa using h.length_eq.symm)];refine rW (by omega) λf y=>?_;rw[if_neg (by simp;omega),bm];exact ⟨by simpa using h,by simpa using t⟩
   ·refine rW (by omega) λf y=>?_;simp only;have v:x=x.take 20++x.drop 20:=(OJ _ _).symm;have Y:(x.take 20).length=20:=by simp;omega
    have Z:(x.drop 20).length=p.length-20:=by simp;omega
    rw[if_pos (by simp;omega)];have r1:=Rq (p:=p) (N:=N) (P:=[]) (A:=x.take 20) (S:=x.drop 20) (a:=0) (E:=20) rfl (by rw[Y];simp) (by omega) (by simp;omega) (by simpa using d);rw[BM,<-v] at r1;refine r1.bind λr b=>?_;obtain ⟨C,rfl,h,t⟩:=b;have T:C.length=20:=by rw[h.length_eq,Y]
    rw[BM,rX (by simp;omega),M,y];refine rW (by omega) λf y=>?_;simp only;rw[if_neg (by simp;omega)];have U:∀a∈C++x.drop 20,Tc p a:=λa g=>d a (by
     rcases kB.1 g with g | g
     ·exact Px (h.mem_iff.1 g)
     ·exact yBp g)
    have r2:=Rq (p:=p) (N:=N) (P:=C) (A:=x.drop 20) (S:=[]) (a:=20) (E:=p.length) (by rw[T];rfl) (by rw[T,Z];omega) (by omega) (by simp;omega) (by simpa using U);rw[DZ] at r2;refine r2.bind λr b=>?_;obtain ⟨D,rfl,h3,h4⟩:=b;have lD:D.length=p.length-20:=by rw[h3.length_eq,Z]
    have m:(C++D).Perm x:=by rw[v];exact List.Perm.append h h3
    rw[DZ,rX (by simp;omega)];refine rW (by omega) λf2 W=>?_;simp only;by_cases ab:p.length=20
    ·rw[if_neg (by simp;omega),bm];have:D=[]:=by rw[<-yBe];omega
     subst this;exact ⟨m,by simpa using t⟩
    ·rw[if_pos (by simp;omega),O];refine rW (by omega) λf3 ad=>?_;simp only;rw[if_neg (by simp;omega),R];refine EK (λr=>r.Perm x/\zP p r) (λk hk=>?_) (λr b=>?_)
     ·rw[if_pos (by simp;omega)];have r3:=MW (p:=p) N [] C D [] 0 20 p.length (by rw[<-WT];omega) (by rw[<-WT];omega) (by simp;omega) (λa g=>d a (m.mem_iff.1 (by simpa using g))) (by omega) rfl (by rw[T];rfl) (by simp;omega);rw[BM,DZ] at r3;refine r3.bind λr b=>?_;obtain ⟨G,rfl,h5,h6⟩:=b;have lG:=h5.length_eq;rw[rX (by simp at lG ⊢;omega)];exact hk _ ⟨by simpa using h5.trans m,by simpa using h6 t h4⟩
     ·rw[Q,W];refine rW (by omega) λf4 af=>?_;simp only;rw[if_neg (by simp;omega),bm];exact b
  intro o ⟨r,ho,h,t⟩;rw[ho,ay,ay,rX (by rw[h.length_eq,z])];exact bm.2 ⟨h,t⟩
end Go.Plain
end
