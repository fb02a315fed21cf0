/- TyL8, TyL9, TySA, TySG, TyLA, TyLD, TyLC, TyR1, TyR2, TyR3, TyR4 -/
import Derived.Test.YtcndmfkgdaipaaaGreatLawB
import Derived.Test.YtcndmfkgdaipaaaGreatLawA
set_option linter.all false
open Go.IntKind (i64 u64)
section
namespace Go.Plain
open Go.Abs
theorem vj{zs:List Int}{j:Nat}(h:j<zs.length):zs.toArray[j]! = zs[j]:=by simp_all
theorem Nx(zs:List Int)(x:Int):x∈Lib.compact zs↔x∈zs:=by
 unfold Lib.compact Lib.compactUpTo;constructor
 ·grind
 ·intro h;obtain ⟨j,hj,rfl⟩:=iX h;have:∀j (hj:j<zs.length),zs[j]∈((List.range zs.length).filter (Lib.keeps zs.toArray)).map (zs.toArray[·]!):=by
   intro j;induction j with
   |zero=>intro hj;exact gD.2 ⟨0,SE.2 ⟨yBP.2 hj,by simp[Lib.keeps]⟩,vj hj⟩
   |succ j ih=>
    intro hj;by_cases e:zs[j+1]=zs[j]
    ·simp_all
    ·refine gD.2 ⟨j+1,SE.2 ⟨yBP.2 hj,?_⟩,vj hj⟩;unfold Lib.keeps
     grind
  simp_all
theorem DX{zs:List Int}(h:zs.Pairwise λa b=>a<=b):(Lib.compact zs).Pairwise λa b=>a<=b:=by
 unfold Lib.compact Lib.compactUpTo;rw[List.pairwise_map]
 grind [vj,List.pairwise_iff_getElem]
theorem Xv{R:Type}{a b:Nat}(h:a=b)(k:Option R):Ck a b k=k:=by grind [Go.Abs.Ck,Nat.beq_refl]
structure XS (nodes:List (List bO)) (part:List Int) (T:List Int):Prop where
 bF:T.Pairwise λa b=>a<=b
 mem:∀x,x∈T↔∃n∈part,∃s∈(nodes[n.toNat]?).getD [],s.At=x
theorem VO{l:List Int}(g:l.length<=1000000){Q:List Int->Prop}(h:∀T,T.Pairwise (λa b=>a<=b)->(∀x,x∈T↔x∈l)->T.length<=l.length->Q T) :
  bQ ((zcl 5000 l).bind λe=>Ck l.length e.length<|(zbO 5000 e).bind λf=>some f.2) Q:=by
 unfold zcl zbO Nt;rw[Abs.NL];have d:∀m:List Int,m.map (λk=>k)=m:=λm=>List.map_id' m;rw[if_pos g,aD,d,d,Xv (List.length_mergeSort l).symm];unfold LM;rw[if_pos (by simp_all),aD,a_,d,d];have i:∀a b c:Int,decide (a<=b)=true->decide (b<=c)=true->decide (a<=c)=true:=λa b c o p=>by grind
 have n:∀a b:Int,(decide (a<=b) || decide (b<=a))=true:=λa b=>by grind
 have hs:(l.mergeSort λx y=>decide (x<=y)).Pairwise λa b=>a<=b:=(List.pairwise_mergeSort i n l).imp λ{a b} h=>by simp_all
 refine h _ (DX hs) (λx=>?_) (by grind [Go.Abs.yW,List.length_mergeSort]);rw[Nx,(List.mergeSort_perm l _).mem_iff]
theorem Gz{nodes:List (List bO)}{q:fo}{L:Nat}(hL:L<=200)(hq:iV q)(hp:PR nodes q L){w:A_}(hw:dM q w) :
  bQ (zbZ 5000 nodes w.Part q.S.aF) λT=>XS nodes (bX q w) T/\T.length<=3200:=by
 have nn:=hq.spec.nodes.hi;obtain ⟨v,z⟩:=g_ hw;have t:=hq.spec.parts.ok _ z;have pl:(bX q w).length<=16:=by
  rcases wv t.2 with h | h
  ·omega
  simp_all
 have u:=hp.len;unfold zbZ;rw[if_neg (by have:=hw.part;simp_all),v,aD];refine iS (bX q w).length (λi x=>x.1=(i:Int)/\x.2.length<=200 * i/\∀y,y∈x.2↔∃n∈(bX q w).take i,∃s∈(nodes[n.toNat]?).getD [],s.At=y) (λi x f g a A=>?_) (λx f a=>?_) ⟨rfl,by simp,λy=>by simp⟩ (by omega)
 ·obtain ⟨y,T⟩:=x;obtain ⟨rfl,m,b⟩:=a;dsimp only at m b ⊢;have hn:=t.2.mem _ (bG g);obtain ⟨k,E⟩:∃k:Nat,(bX q w)[i]=(k:Int):=⟨((bX q w)[i]).toNat,by omega⟩;have hk:k<nodes.length:=by omega
  obtain ⟨K,lk⟩:=hp.cD.each k hk;rw[if_pos (cS g),bZ g,aD,E,bZ hk,aD];refine iS nodes[k].length (λj x=>x.1=(j:Int)/\x.2.length=T.length+j/\∀y,y∈x.2↔y∈T∨∃s∈nodes[k].take j,s.At=y) (λj x G hj a o=>?_) (λx G a=>?_) ⟨rfl,rfl,λy=>by simp⟩ (by omega)
  ·obtain ⟨y,U⟩:=x;obtain ⟨rfl,p,d⟩:=a;dsimp only at p d ⊢;rw[if_pos (cS hj),bZ hj,aD,zq (by grind),aD,bU (show j<1000000 by omega)];refine o _ ⟨rfl,by grind,λy=>?_⟩;dsimp only;rw[gp,zi,d,or_assoc];refine or_congr_right ?_;constructor
   ·rintro (⟨s,e,r⟩ | h)
    ·grind
    ·exact ⟨_,(eH hj).2 (.inr rfl),h.symm⟩
   ·rintro ⟨s,e,r⟩;rcases (eH hj).1 e with e | e
    ·grind
    simp_all
  ·obtain ⟨y,U⟩:=x;obtain ⟨rfl,p,d⟩:=a;dsimp only at p d ⊢;rw[if_neg (by simp),bU (show i<1000000 by omega)];rw[uj] at d;refine A _ ⟨rfl,by grind,λy=>?_⟩;dsimp only;rw[d,b,DC g]
   simp_all
 ·obtain ⟨y,T⟩:=x;obtain ⟨rfl,m,b⟩:=a;dsimp only at m b ⊢;rw[if_neg (by simp)];rw[uj] at b;exact VO (by omega) λU e r M=>⟨⟨e,λx=>(r x).trans (b x)⟩,by omega⟩
def bV(q:fo)(w:A_)(t:Int):List cU×Bool:=(TY 5000 q w t).getD ([],false)
structure rz (q:fo) (w:A_) (T:List Int) (r:dt×Bool):Prop where
 yes:r.2=true->r.1.At∈T/\(bV q w r.1.At).2=true/\(∀s∈T,(bV q w s).2=true->r.1.At<=s)/\r.1.bj=0/\r.1.ae=(bV q w r.1.At).1
 no:r.2=false->(∀s∈T,(bV q w s).2=false)/\r.1={ bj:=0,At:=0,ae:=[] }
section
variable{nodes:List (List bO)}{q:fo}{L:Nat}(hL:L<=200)(hq:iV q)(hp:PR nodes q L){w:A_}(hw:dM q w)
include hL hq hp hw
theorem BQ{t:Int}(b:q.aT<=t):zaK 5000 nodes w.Part w.aK w.az w.aU t q.aT q.S.aF=some (bV q w t)/\TY 5000 q w t=some (bV q w t):=by
 by_cases d:t<=1099511627776
 ·obtain ⟨F,_,_,e,a⟩:=wg (by omega) hq hp hw b d;have:bV q w t=wh F (bX q w) w.aK w.az:=by grind [bV]
  simp_all
 ·have a:TY 5000 q w t=some ([],false):=by
   unfold TY
   simp_all
  have:bV q w t=([],false):=by grind [bV]
  rw[this];refine ⟨?_,a⟩;unfold zaK
  simp_all
theorem VQ:bQ (zaC 5000 q w) λr=>∃T,zC q T/\rz q w T r:=by
 unfold zaC;refine (NN hq).bind λT a=>?_;have m:=a.len;refine wV T (λ_ t=>(bV q w t).2=false) (λi f b d e=>?_) (λf d=>?_) (by omega)
 ·have k:=(a.mem T[i]).1 (bG b);rw[if_pos (cS b),bZ b,aD,(BQ hL hq hp hw k.1).2,aD,bz,bU (show i<1000000 by omega)];refine ⟨λh=>?_,λh=>e (by simp_all)⟩;rw[aD,a_];refine ⟨T,a,⟨λ_=>⟨bG b,h,λs hs n=>?_,rfl,rfl⟩,λh=>by simp at h⟩⟩;obtain ⟨j,hj,rfl⟩:=iX hs;dsimp only;rcases VV j i with g | g | g
  ·simp_all
  ·simp_all
  ·have:=yAU.1 a.bF i j b hj g;omega
 ·rw[if_neg (by simp),a_];exact ⟨T,a,⟨λh=>by simp at h,λ_=>⟨DF (A:=λt=>(bV q w t).2=false) d,rfl⟩⟩⟩
theorem HD{T:List Int}(b:XS nodes (bX q w) T):q.aT∈T/\∀x∈T,q.aT<=x:=by
 obtain ⟨i,g⟩:=g_ hw;have d:=hq.spec.parts.ok _ g;have e:=hp.len;constructor
 ·have f:0<(bX q w).length:=by omega
  have hn:=d.2.mem _ (bG f);have hk:((bX q w)[0]).toNat<nodes.length:=by omega
  obtain ⟨a,lk⟩:=hp.cD.each _ hk;refine (b.mem _).2 ⟨_,bG f,nodes[((bX q w)[0]).toNat][0]'a.ne,?_,hp.cD.first _ hk a.ne⟩
  simp_all
 ·intro x h;obtain ⟨n,hn,s,hs,rfl⟩:=(b.mem x).1 h;have nb:=d.2.mem n hn;have hk:n.toNat<nodes.length:=by omega
  obtain ⟨a,lk⟩:=hp.cD.each _ hk;rw[eS hk,xAd] at hs;obtain ⟨j,hj,rfl⟩:=iX hs;have:=hp.cD.first _ hk a.ne;have:=a.le (Px j) hj;omega
theorem PK:bQ (zaQ 5000 nodes w.Part w.aK w.az w.aU q.aT q.S.aF) fun r=>∃T,XS nodes (bX q w) T∧rz q w T r:=by
 unfold zaQ
 refine (Gz hL hq hp hw).bind fun T d=>?_
 obtain ⟨d,y⟩:=d
 have a:=(HD hL hq hp hw d).2
 have fin:∀i (e:i<T.length),(∀j (hj:j<T.length),j<i→(bV q w T[j]).2=false)→(bV q w T[i]).2=true→rz q w T ({ bj:=0,At:=T[i],ae:=(bV q w T[i]).1 },true):=fun i e k h=>
  ⟨fun _=>⟨bG e,h,fun s hs n=>by
   obtain ⟨j,hj,rfl⟩:=iX hs
   dsimp only
   rcases VV j i with g | g | g
   ·simp_all
   ·simp_all
   ·have:=yAU.1 d.bF i j e hj g; omega,rfl,rfl⟩,fun h=>by simp at h⟩
 have none:(∀j (hj:j<T.length),(bV q w T[j]).2=false)→rz q w T ({ bj:=0,At:=0,ae:=[] },false):=fun k=>
  ⟨fun h=>by simp at h,fun _=>⟨DF (A:=fun t=>(bV q w t).2=false) k,rfl⟩⟩
 rw [bz]
 refine ⟨fun h=>?_,fun h=>?_⟩
 ·rw [a_]
  grind
 ·have o:0<T.length:=by grind
  have p:aB T 0=some T[0]:=bZ o
  rw [p,Option.bind_some,(BQ hL hq hp hw (a _ (bG o))).1,Option.bind_some,bz]
  refine ⟨fun u=>?_,fun u=>?_⟩
  ·grind [a_]
  ·refine iS (T.length-1) (fun i x=>x=(T,((i+1:Nat):Int))∧∀j (hj:j<T.length),j<i+1→(bV q w T[j]).2=false) (fun i x f e m z=>?_) (fun x f m=>?_) ⟨rfl,fun j hj v=>?_⟩ (by omega)
   ·obtain ⟨rfl,k⟩:=m
    have b:i+1<T.length:=by omega
    dsimp only
    rw [if_neg (by grind),bZ b,Option.bind_some,(BQ hL hq hp hw (a _ (bG b))).1,Option.bind_some,bz]
    refine ⟨fun n=>?_,fun n=>?_⟩
    ·grind [a_]
    ·rw [bU (show i+1<1000000 by omega)]
     grind
   ·obtain ⟨rfl,k⟩:=m
    dsimp only
    rw [if_pos (by grind),a_]
    grind
   simp_all
theorem BD{t a:Int}(m:q.aT<=a)(h:a<=t)(o:∀n∈bX q w,∀u,a<=u->u<=t->bq q n u=bq q n t)(i:(bV q w t).2=true):(bV q w a).2=true:=by
 have Q:=hp.right;have p:=hq.now;have R:=hw.wall;have r:t<=1099511627776:=by
  rcases yBS 1099511627776 t with g | g
  ·exfalso;have T:TY 5000 q w t=some ([],false):=by
    unfold TY
    simp_all
   grind [bV]
  omega
 obtain ⟨F,x,b,_,e⟩:=wg (by omega) hq hp hw (show q.aT<=t by omega) r;obtain ⟨G,y,d,_,U⟩:=wg (by omega) hq hp hw m (by omega);have w1:bV q w t=wh F (bX q w) w.aK w.az:=by grind [bV]
 have w2:bV q w a=wh G (bX q w) w.aK w.az:=by grind [bV]
 rw[w1] at i;rw[w2];obtain ⟨z,A⟩:=mF.1 i;refine mF.2 ⟨z,yCd A (EJ b d hw.need λn hn c=>?_)⟩;have nb:=b.node n hn;obtain ⟨E,_,K⟩:=pO (F:=F) nb.1 nb.2;obtain ⟨M,_,N⟩:=pO (F:=G) nb.1 (by grind [Cu.len]);have f:=x.low _ E;have k:=y.low _ M;rw[yBM nb.1] at f k;rw[K,N];obtain ⟨u,v,O,W,P,ev⟩:=k.cD c;rw[<-ev,P];by_cases g:u<t
 ·rw[o n hn u O (by omega)];exact f.le t _ (Jz _) (by omega) rfl c
 ·exact f.le u _ (by omega) (by omega) rfl c
theorem Eh{t:Int}(a:(bV q w t).2=true):t<=1099511627776:=by
 rcases yBS 1099511627776 t with g | g
 ·exfalso;have b:TY 5000 q w t=some ([],false):=by
   unfold TY
   simp_all
  grind [bV]
 omega
theorem Ln:∃r,zaQ 5000 nodes w.Part w.aK w.az w.aU q.aT q.S.aF=some r/\zaC 5000 q w=some r/\(∃T,zC q T/\rz q w T r):=by
 obtain ⟨r,e,T,N,Y⟩:=VQ hL hq hp hw;obtain ⟨Z,e',v,i,d⟩:=PK hL hq hp hw;obtain ⟨ep,hm⟩:=g_ hw;have kp:=hq.spec.parts.ok _ hm;have aa:=hp.len;have O:=HD hL hq hp hw i;have f:∀t∈T,(bV q w t).2=true->∃h∈v,h<=t/\(bV q w h).2=true:=λt P Q=>by
  have A:=(N.mem t).1 P;obtain ⟨x,k,E,m,R⟩:=wJ v (a:=q.aT) A.1;have U:x∈v:=by grind
  refine ⟨x,U,m,BD hL hq hp hw E m (λn hn u u1 u2=>?_) Q⟩;have nb:=kp.2.mem n hn;have hk:n.toNat<nodes.length:=by omega
  have v1:=hp.val n.toNat hk u (by omega);have v2:=hp.val n.toNat hk t A.1;rw[yBM nb.1] at v1 v2;obtain ⟨s,s1,s2,W,s4⟩:=v2;have sx:s.At<=x:=R _ ((i.mem _).2 ⟨n,hn,s,by simp_all,rfl⟩) s2;exact v1.BG (hp.cD.each _ hk).1 ⟨s,s1,by omega,λs' o G=>W s' o (by omega),s4⟩
 have g:∀t∈v,(bV q w t).2=true->∃h∈T,h<=t/\(bV q w h).2=true:=λt P Q=>by
  have A:=O.2 t P;obtain ⟨x,k,E,m,R⟩:=wJ T (a:=q.aT) A;have U:x∈T:=by
   rcases k with k | k
   ·rw[k];exact (N.mem _).2 ⟨Jz _,.inl rfl⟩
   omega
  refine ⟨x,U,m,BD hL hq hp hw E m (λn hn u u1 u2=>?_) Q⟩;have c:∀y,x<=y->y<=t->bq q n y=bq q n x:=λy y1 y2=>vk E y1 λz z1 z2 z3=>by have:=R z ((N.mem z).2 ⟨z1,z2⟩) (by omega);omega
  simp_all
 have:Z=r:=by
  obtain ⟨p,b⟩:=r;obtain ⟨X,b'⟩:=Z;cases b with
  |true=>
   obtain ⟨o,G,h3,h4,h5⟩:=Y.yes rfl;dsimp only at o G h3 h4 h5;obtain ⟨h,t1,t2,t3⟩:=f _ o G;cases b' with
   |true=>
    obtain ⟨K,M,g3,g4,g5⟩:=d.yes rfl;dsimp only at K M g3 g4 g5;obtain ⟨s',s1,s2,W⟩:=g _ K M;have:=g3 _ t1 t3;have:=h3 _ s1 W;have ea:X.At=p.At:=by omega
    have:X=p:=by
     obtain ⟨a1,a2,a3⟩:=p;obtain ⟨b1,b2,b3⟩:=X
     simp_all
    rw[this]
   |false=>
    have:=(d.no rfl).1 _ t1
    simp_all
  |false=>
   obtain ⟨o,G⟩:=Y.no rfl;cases b' with
   |true=>
    obtain ⟨K,M,_⟩:=d.yes rfl
    grind
   |false=>
    obtain ⟨K,M⟩:=d.no rfl
    simp_all
 grind
end
end Go.Plain
end
section
namespace Go.Plain
open Go.Abs
def eC(u:oA):jQ:={ az:=u.az,ae:=u.ae,oO:=u.To }
structure Xu (q:fo):Prop where
 ref:iV q
 lo:∀u∈q.L,u.bK=q.aT/\q.aT<u.To
 caps:∀(i k:Nat)(h:k<q.S.am.length)(t:Int)(c:Nat),cmp c (aN (q.L.take i) k t)<=cmp c q.S.am[k]
 live:∀b∈q.ay,q.aT<b.To
 yb:∀b∈q.ay,∀t,b.bK<=t->q.aT<=t->aN q.L b.Node t=bR
theorem Qm{q:fo}(h:Xu q):gO 5000 (q.L.map eC) q.aT q.S.am.length=some true:=by
 have p:=h.ref.yg;unfold gO;refine bQ.eq (wV (q.L.map eC) (λ_ _=>True) (λi f b _ r=>?_) (λf t=>?_) (by grind))
 ·have a:i<q.L.length:=by simp_all
  have u:=h.ref.used _ (bG a);have v:=h.lo _ (bG a);have e:(q.L.map eC)[i]=eC q.L[i]:=Kk ..;obtain ⟨x,d,g⟩:=oX (eC q.L[i]).ae q.S.am.length u.yg;have:=g.2 u.shares;subst this;obtain ⟨y,k,m⟩:=Ut (eC q.L[i]).az;have:=m.2 u.need;subst this;rw[if_pos (cS b),bZ b,e,aD,gB,d,aD,if_neg (by simp),k,aD];have n:decide ((eC q.L[i]).oO<=q.aT)=false:=by show decide (q.L[i].To<=q.aT)=false;simp_all
  have o:decide ((eC q.L[i]).oO > 281474976710656)=false:=by show decide (q.L[i].To > _)=false;have:=u.hi;simp_all
  rw[n,o];dsimp only;rw[if_neg (by simp),bU (show i<1000000 by omega)]
  simp_all
 ·rw[if_neg (by simp),a_]
theorem NE{a:Int}{r:aC}(h:0<=a/\a<=1099511627776)(b:aM r):dP [({ At:=a,cy:=r }:bO)]:=
 ⟨by simp,λi d=>by grind,λs hs=>by grind⟩
theorem Uy{a:Int}{r:aC}(h:0<=a/\a<=1099511627776)(b:aM r):wM 5000 a r=some ([{ At:=a,cy:=r }],0):=by unfold wM;rw[jP (by simp) (NE h b),aD,if_neg (by simp)]
theorem Kp{q:fo}(k:bp q.S){i:Nat}(a:i<q.S.am.length):aM q.S.am[i]:=k.nodes.ok _ (bG a)
theorem NZ{q:fo}(h:Xu q):bQ (zeF 5000 (q.L.map eC) q.S q.aT q.ay) λr=>∃nodes,r=.inr (nodes,q.aT,q.S.aF)/\PR nodes q (1+2 * (q.L.length+q.ay.length)):=by
 have hq:=h.ref;have hs:=fZ hq.spec;have nn:=hq.spec.nodes.hi;have af:=hq.now;have hf:=hq.yg;have hb:=hq.cu.len;unfold zeF;obtain ⟨rb,eb,ax⟩:=Fx q.ay q.S.am.length (by omega);have:=ax.2 hq.cu;subst this;rw[gB,BK hs hq.spec,aD,if_neg (by simp;omega),eb,aD,if_neg (by simp),Qm h,aD];dsimp only;rw[if_neg (by simp)];have av:=hs.parts;refine iS q.S.aF.length (λi x=>x=((i:Int),q.S.aF.take i)) (λi x f o K Z=>?_) (λx f K=>?_) rfl (by omega)
 ·subst K;have pl:=hs.part _ (bG o);dsimp only;rw[if_pos (cS o),bZ o,aD];unfold zaX;rw[FW (by omega),aD,zq (by simp;omega),aD,bU (show i<1000000 by omega)];exact Z _ (by rw[DC o])
 subst K;dsimp only;rw[if_neg (by simp),uj];refine iS q.S.am.length (λi x=>x.1=(i:Int)/\x.2=(q.S.am.take i).map λr=>[({ At:=q.aT,cy:=r }:bO)]) (λi x f o K Z=>?_) (λx f K=>?_) ⟨rfl,rfl⟩ (by omega)
 ·obtain ⟨y,M⟩:=x;obtain ⟨rfl,rfl⟩:=K;dsimp only;rw[if_pos (cS o),bZ o,aD,Uy af (Kp hq.spec o),aD,if_neg (by simp),zq (by simp;omega),aD,bU (show i<1000000 by omega)];exact Z _ ⟨rfl,by rw[DC o,Yb];rfl⟩
 obtain ⟨y,M0⟩:=x;obtain ⟨rfl,rfl⟩:=K;dsimp only;rw[if_neg (by simp),uj];have ak:∀(r:aC)(t:Int),q.aT<=t->yE [({ At:=q.aT,cy:=r }:bO)] t r:=λr t N=>⟨_,zi.2 rfl,N,λs' E _=>by rw[zi.1 E];exact Jz _,rfl⟩;refine iS (q.L.map eC).length (λi x=>x.1=(i:Int)/\x.2.length=q.S.am.length/\Du x.2 q.aT (1+2 * i)/\∀(k:Nat)(E:k<x.2.length)(W:k<q.S.am.length)(t:Int),q.aT<=t->yE x.2[k] t (fG q.S.am[k] (aN (q.L.take i) k t))) (λi x f o K Z=>?_) (λx f K=>?_) ⟨rfl,by simp,⟨λk hk=>?_,λk hk E=>by simp⟩,λk E W t N=>?_⟩ (by simp;omega)
 ·obtain ⟨y,M⟩:=x;obtain ⟨rfl,O,p,G⟩:=K;dsimp only at O p G ⊢;have aa:i<q.L.length:=by simpa using o
  have u:=hq.used _ (bG aa);have lo:=h.lo _ (bG aa);have e:(q.L.map eC)[i]=eC q.L[i]:=Kk ..;have st:∀k t,aN (q.L.take (i+1)) k t=BP (aN (q.L.take i) k t) (jJ q.L[i] k t):=λk t=>by rw[DC aa,nV]
  rw[if_pos (cS o),bZ o,e,aD];refine (CA (by omega) p (by omega) (a:=q.aT) (b:=(eC q.L[i]).oO) (l:=(eC q.L[i]).ae) (need:=(eC q.L[i]).az) (by rw[O];exact u.shares) u.yg u.need (Jz _) (show q.aT<q.L[i].To by omega) u.hi (λk hk t v h1 W hv c=>?_)).bind λr ab=>?_
  ·have Q:k<q.S.am.length:=by omega
   have ev:=hv.BG (p.each k hk).1 (G k hk Q t h1);have cp:=h.caps (i+1) k Q t c;rw[st,wu] at cp;have ea:jJ q.L[i] k t=mulR (dw q.L[i].ae k) q.L[i].az:=by unfold jJ;rw[if_pos ⟨by omega,W⟩]
   rw[ea] at cp;rw[ev,Aq];show cmp c (mulR (dw q.L[i].ae k) q.L[i].az)<=_;omega
  ·obtain ⟨r1,r2,r3⟩:=ab;rw[if_neg (by simp[r1]),bU (show i<1000000 by omega)];refine Z _ ⟨rfl,by dsimp only;omega,⟨λk hk=>?_,λk hk E=>?_⟩,λk E W t N=>?_⟩
   ·have T:=r3 k (by dsimp only at hk;omega) hk;exact ⟨T.ok,by have:=T.len;have:=(p.each k (by dsimp only at hk;omega)).2;dsimp only at *;omega⟩
   ·have T:=r3 k (by dsimp only at hk;omega) hk;have n0:=(p.each k (by dsimp only at hk;omega)).1.ne;dsimp only;rw[T.first n0 E,p.first k (by dsimp only at hk;omega) n0]
   ·have T:=r3 k (by dsimp only at E;omega) E;have:=T.val t _ (G k (by omega) W t N);dsimp only;rw[st];by_cases g:t<q.L[i].To
    ·have ea:jJ q.L[i] k t=mulR (dw q.L[i].ae k) q.L[i].az:=by unfold jJ;rw[if_pos ⟨by omega,g⟩]
     rw[if_pos ⟨N,g⟩] at this;rw[ea,<-HM];exact this
    ·have ea:jJ q.L[i] k t=bR:=by unfold jJ;rw[if_neg λX=>g X.2]
     rw[if_neg (show ¬(q.aT<=t/\t<(eC q.L[i]).oO) from λX=>g X.2)] at this;rw[ea,Iz];exact this
 ·obtain ⟨y,M⟩:=x;obtain ⟨rfl,O,p,G⟩:=K;dsimp only at O p G ⊢;rw[if_neg (by simp)];rw[wj,uj] at G;rw[wj] at p;refine iS q.ay.length (λi x=>x.1=(i:Int)/\x.2.length=q.S.am.length/\Du x.2 q.aT (1+2 * (q.L.length+i))/\∀(k:Nat)(E:k<x.2.length)(t:Int),q.aT<=t->yE x.2[k] t (bq { q with ay:=q.ay.take i } k t)) (λi x f o K Z=>?_) (λx f K=>?_) ⟨rfl,O,by simpa using p,λk E t N=>?_⟩ (by omega)
  ·obtain ⟨y,M⟩:=x;obtain ⟨rfl,O,p,G⟩:=K;dsimp only at O p G ⊢;have bk:=hq.cu.each i o;have lv:=h.live _ (bG o);have nd:=bk.one.node;obtain ⟨n,en⟩:∃n:Nat,q.ay[i].Node=(n:Int):=⟨q.ay[i].Node.toNat,by omega⟩;have hn:n<M.length:=by omega
   have ad:n<q.S.am.length:=by omega
   obtain ⟨sk,lk⟩:=p.each n hn;have f0:=p.first n hn sk.ne;rw[if_pos (cS o),gB,bZ o,aD,if_neg (by simp;omega),en,bZ hn,aD,bZ ad,aD];have nv:=Kp hq.spec ad;have an:ee q.S.am (n:Int)=q.S.am[n]:=AB ad;have Y:∀t,q.aT<=t->q.ay[i].bK<=t->t<q.ay[i].To->bq { q with ay:=q.ay.take i } n t=q.S.am[n]:=λt h1 W h3=>by
    unfold bq;rw[if_neg]
    ·have:=h.yb _ (bG o) t W h1;rw[en] at this;show fG (ee q.S.am n) (aN q.L n t)=_;rw[this,an];exact dY λc=>by rw[Aq,OE];omega
    ·rintro ⟨b,R,m1,m2,m3⟩;obtain ⟨j,hj,rfl⟩:=KX.1 R;rw[BY] at hj;simp only[Po] at m1 m2 m3;refine (bk.up j (by omega) (by omega)).2 ⟨by rw[m1,en],by omega,bk.one.span,by omega,by omega⟩
   have a0:=bk.one.lo;have a1:=bk.one.hi;have sp:=bk.one.span;have mx:∀P:Int->Prop,P (if q.aT > q.ay[i].bK then q.aT else q.ay[i].bK)=P (max q.aT q.ay[i].bK):=λP=>by congr 1;split <;> omega
   rw[show (if q.aT > q.ay[i].bK then q.aT else q.ay[i].bK)=max q.aT q.ay[i].bK by split <;> omega]
   refine (yc (by omega) sk nv (by omega) (show max q.aT q.ay[i].bK<q.ay[i].To by omega) (by omega) λt v h1 W hv c=>?_).bind λr ab=>?_
   ·have ev:=hv.BG sk (G n hn t (by omega));rw[ev,Y t (by omega) (by omega) W];exact Jz _
   ·obtain ⟨r1,T⟩:=ab;rw[if_neg (by simp[r1]),aD,bU (show i<1000000 by omega),xAc];refine Z _ ⟨rfl,by simp[O],⟨λk hk=>?_,λk hk E=>?_⟩,λk E t N=>?_⟩
    ·by_cases g:n=k
     ·subst g;have e:(M.set n r.1)[n]'(by simpa using hn)=r.1:=yB7 _;show dP (M.set n r.1)[n]/\(M.set n r.1)[n].length<=_;rw[e];exact ⟨T.ok,by have:=T.len;omega⟩
     ·have d:k<M.length:=by simpa using hk
      have e:(M.set n r.1)[k]'(by simpa using d)=M[k]:=yB0 g _;show dP (M.set n r.1)[k]/\(M.set n r.1)[k].length<=_;rw[e];have:=p.each k d;exact ⟨this.1,by have:=this.2;omega⟩
    ·by_cases g:n=k
     ·subst g;have e:(M.set n r.1)[n]'(by simpa using hn)=r.1:=yB7 _;simp only[e];rw[T.first sk.ne T.ok.ne,f0]
     ·have d:k<M.length:=by simpa using hk
      have e:(M.set n r.1)[k]'(by simpa using d)=M[k]:=yB0 g _;simp only[e];exact p.first k d (p.each k d).1.ne
    ·have d:k<M.length:=by simpa using E
     have A:Dd (q.ay.take (i+1)) k t↔Dd (q.ay.take i) k t∨(q.ay[i].Node=(k:Int)/\q.ay[i].bK<=t/\t<q.ay[i].To):=by
      unfold Dd;rw[DC o];constructor
      ·rintro ⟨b,R,m⟩;rcases gp.1 R with g | g
       ·exact .inl ⟨b,g,m⟩
       ·rw[zi.1 g] at m;exact .inr m
      ·rintro (⟨b,g,m⟩ | m)
       ·exact ⟨b,yB9 _ g,m⟩
       ·exact ⟨_,yB5 _ (zi.2 rfl),m⟩
     by_cases g:n=k
     ·subst g;have e:(M.set n r.1)[n]'(by simpa using hn)=r.1:=yB7 _;simp only[e];have RI:=G n hn t N;have new:=T.val t _ RI;by_cases X:q.ay[i].bK<=t/\t<q.ay[i].To
      ·rw[if_pos ⟨by omega,X.2⟩,Y t N X.1 X.2] at new;have:bq { q with ay:=q.ay.take (i+1) } n t=bR:=by
        unfold bq;rw[if_pos];exact A.2 (.inr ⟨en,X⟩)
       rw[this];have z:fG q.S.am[n] q.S.am[n]=bR:=dY λc=>by rw[Aq,OE];omega
       rw[z] at new;exact new
      ·rw[if_neg λU=>X ⟨by omega,U.2⟩] at new;have:bq { q with ay:=q.ay.take (i+1) } n t=bq { q with ay:=q.ay.take i } n t:=by
        unfold bq;by_cases U:Dd (q.ay.take i) n t
        ·rw[if_pos (show Dd (q.ay.take (i+1)) n t from A.2 (.inl U)),if_pos (show Dd (q.ay.take i) n t from U)]
        ·rw[if_neg (show ¬Dd (q.ay.take (i+1)) n t from λg4=>(A.1 g4).elim U λg5=>X g5.2),if_neg (show ¬Dd (q.ay.take i) n t from U)]
       rw[this];exact new
     ·have e:(M.set n r.1)[k]'(by simpa using d)=M[k]:=yB0 g _;simp only[e];have:bq { q with ay:=q.ay.take (i+1) } k t=bq { q with ay:=q.ay.take i } k t:=by
       unfold bq;by_cases U:Dd (q.ay.take i) k t
       ·rw[if_pos (show Dd (q.ay.take (i+1)) k t from A.2 (.inl U)),if_pos (show Dd (q.ay.take i) k t from U)]
       ·rw[if_neg (show ¬Dd (q.ay.take (i+1)) k t from λg4=>(A.1 g4).elim U λg5=>by rw[en] at g5;omega),if_neg (show ¬Dd (q.ay.take i) k t from U)]
      rw[this];exact G k d t N
  ·obtain ⟨y,M⟩:=x;obtain ⟨rfl,O,p,G⟩:=K;dsimp only at O p G ⊢;rw[if_neg (by simp),a_];rw[uj] at G;exact ⟨M,rfl,O,p,G⟩
  ·have e:bq { q with ay:=q.ay.take 0 } k t=fG (ee q.S.am k) (aN q.L k t):=by
    unfold bq;rw[if_neg];rintro ⟨b,R,_⟩;simp at R
   have Q:k<q.S.am.length:=by dsimp only at E;omega
   rw[e,AB Q];exact G k E Q t N
 ·have d:k<q.S.am.length:=by simpa using hk
  have e:((q.S.am).map λr=>[({ At:=q.aT,cy:=r }:bO)])[k]'(by simpa using d)=[{ At:=q.aT,cy:=q.S.am[k] }]:=Kk ..;simp only[e];exact ⟨NE af (Kp hq.spec d),by simp⟩
 ·have e:((q.S.am).map λr=>[({ At:=q.aT,cy:=r }:bO)])[k]'(by simpa using W)=[{ At:=q.aT,cy:=q.S.am[k] }]:=Kk ..;simp only[e];have z:fG q.S.am[k] (aN (q.L.take 0) k t)=q.S.am[k]:=dY λc=>by rw[Aq];simp[aN,OE]
  rw[z];exact ak _ t N
end Go.Plain
end
section
namespace Go.Plain
open Go.Abs
def zeroJ:aL:={ Id:=0,c_:=0,Queue:=0,aK:=0,az:={ bP:=0,Mem:=0,bS:=0,bT:=0 },aU:=0,aI:=[],State:=0,Ok:=false,dD:=false,aQ:=0,dF:=0,Start:=0,End:=0,Array:=0 }
theorem WW{l:List aL}(b:l.length<=300)(hs:cf l)(id:Int):bQ (zaG 5000 l id) λr=>(r.2=true↔∃j∈l,j.Id=id)/\(r.2=true->At l id r.1):=by
 unfold zaG;rw[kC];refine half b hs id (λj=>some (decide (j.Id<id))) (λj hj=>rfl) (λi=>some i) (λi g m n=>?_) _ (λf x=>?_)
 ·rw[a_,bz];refine ⟨λh=>?_,λh=>?_⟩
  ·simp only[bA] at h;have a:i<l.length:=by omega
   rw[bZ a,aD,a_];simp only[nB];refine ⟨⟨λe=>⟨_,bG a,e⟩,λ⟨j,d,e⟩=>?_⟩,λe=>⟨by omega,by omega,by simp_all⟩⟩;obtain ⟨k,hk,rfl⟩:=iX d;rcases VV k i with q | q | q
   ·grind
   ·simp_all
   ·have:=hs.lt q hk;grind
  ·simp only[bA] at h;simp only[a_,b_,FU,false_implies,Oa]
   grind [List.getElem_of_mem]
 grind
section
variable{l:List aL}
theorem Iw(d:l.length<=300)(hs:cf l){k:Nat}(hk:k<l.length):zaG 5000 l l[k].Id=some ((k:Int),true):=by obtain ⟨⟨r,b⟩,e,f,g⟩:=WW d hs l[k].Id;have h:b=true:=f.2 ⟨_,bG hk,rfl⟩;subst h;have a:At l l[k].Id r:=g rfl;have:=hs.inj a.hi hk a.is;have:=a.lo;rw[e,show r=(k:Int) by omega]
theorem uB{j:aL}(h:gy j):zeK 5000 j=some true:=by obtain ⟨r,e,q⟩:=Bx j;rw[e,q.2 h]
theorem OV(hs:cf l){k:Nat}(hk:k<l.length){j:aL}(d:j.Id=l[k].Id):cf (l.set k j):=by
 have a:∀i (h:i<l.length),((l.set k j)[i]'(by simp_all)).Id=l[i].Id:=λi h=>by grind
 intro i e;have b:i+1<l.length:=by simp_all
 rw[a i (by omega),a (i+1) b];exact hs i b
end
def Rg(x:Int):Int:=if x≥281474976710656 then 0 else x+1
theorem Nu{x:Int}(h:0<=x):gu 5000 x=some (Rg x):=by
 unfold gu Rg;simp only[bA]
 grind [wr]
def sD(Q:List Int)(q:Int):List Int:=if 0<=q/\q<Q.length then Q.set q.toNat (Rg (Q[q.toNat]?.getD 0)) else Q
theorem OW(Q:List Int)(q:Int):(sD Q q).length=Q.length:=by grind [sD]
def qG(Q:List Int):Prop:=∀x∈Q,0<=x/\x<=281474976710656
theorem Tp{x:Int}(h:0<=x/\x<=281474976710656):0<=Rg x/\Rg x<=281474976710656:=by grind [Rg]
theorem Hz{Q:List Int}(h:qG Q)(q:Int):qG (sD Q q):=by
 unfold sD;split
 ·rename_i hq;have a:q.toNat<Q.length:=by omega
  intro x b;rcases List.mem_or_eq_of_mem_set b with e | e
  ·exact h x e
  ·subst e;rw[eS a];exact Tp (h _ (bG a))
 ·exact h
theorem Og{Q:List Int}(h:qG Q)(q:Int):zbb 5000 Q q=some (sD Q q):=by
 unfold zbb sD;by_cases hq:0<=q/\q<Q.length
 ·rw[if_pos (by simp_all),if_pos hq];obtain ⟨a,e⟩:=Gm (l:=Q) hq.1 hq.2;rw[e,aD,Nu (h _ (bG a)).1,aD,aD,eS a];rfl
 grind
def oW(Q:List Int)(a b:Int):List Int:=if b=a then sD Q a else sD (sD Q a) b
theorem MT(Q:List Int)(a b:Int):(oW Q a b).length=Q.length:=by grind [oW,OW]
theorem Pf{Q:List Int}(h:qG Q)(a b:Int):qG (oW Q a b):=by grind [oW,Hz]
section
variable{l:List aL}
def Ee(x:Int):Prop:=x=1∨x=2
instance (x:Int):Decidable (Ee x):=by unfold Ee;infer_instance
theorem Qh(x:Int):jH 5000 x=some (decide (Ee x)):=by unfold jH;congr 1;rw[Bool.eq_iff_iff];rw[bA];simp only[gF,nB,Ee]
end
structure Shows (st:cz):Prop where
 bg:st.aj.length<=300
 after:∀j∈st.aj,j.aI.length<=10
 cr:st.ai.length<=300
 asc:Ae st.ai
 ids:∀a∈st.ai,0<=a.bj/\a.bj<=1048576
 sh:∀a∈st.ai,a.ae.length<=300
 cu:st.ay.length<=20
 use:st.oF.length<=20
 stamps:st.aG.aq.length<=20
theorem ZZ{s:bo}{st:cz}(hw:lr s st)(q:ba s st):Shows st:=
 ⟨hw.bg,hw.after,hw.cr,BW q,Hc q,hw.sh,hw.cu,hw.use,hw.stamps⟩
theorem Yj{st:cz}(h:Shows st) :
  VR 5000 st.aG.aq st.aj (st.ai.map λa=>(a.bj,a)) st.aT st.Next st.eo st.ay st.oF st.aG.am=some st:=by
 have b:=h.bg;have d:=h.cu;have e:=h.use;have hs:=h.stamps;unfold VR;rw[LO (by omega) h.after,aD,show aY 5000 (st.ai.map λa=>(a.bj,a))=some st.ai from DY h.cr h.asc h.ids h.sh,aD,CE (by omega),aD,sJ (by omega),aD,show zcb 5000 st.aG.aq=some st.aG.aq from FW (by omega),aD]
end Go.Plain
end
section
namespace Go.Plain
open Go.Abs
section
variable{l:List aL}
theorem get_some(a:l.length<=300)(hs:cf l){k:Nat}(hk:k<l.length)(b:l[k].aI.length<=1000):zbo 5000 l l[k].Id=some (l[k],true):=by unfold zbo;rw[Iw a hs hk,aD];simp only[OK,b_,cw];rw[bZ hk,aD,DJ (by omega),aD]
theorem LQ(a:l.length<=300)(hs:cf l){k:Nat}(hk:k<l.length)(b:l[k].aI.length<=1000):zbq 5000 l l[k].Id=some (l[k],true):=by unfold zbq;rw[get_some a hs hk b,aD]
end
end Go.Plain
end
section
namespace Go.Plain
open Go.Abs
theorem Ou{l:List aL}(d:l.length<=300)(hs:cf l){i:Nat}(b:i<l.length):Wj 5000 l l[i].Id=some (i:Int):=by
 obtain ⟨r,e,f,g,_⟩:=zM d l[i].Id;have h:0<=r:=f.2 ⟨_,bG b,rfl⟩;have a:=g h;have:=hs.inj a.hi b a.is
 grind
def NI(st:cz)(id:Int):aL:=(st.aj.find? λj=>j.Id == id).getD zeroJ
theorem EE{st:cz}(hs:cf st.aj){i:Nat}(a:i<st.aj.length):NI st st.aj[i].Id=st.aj[i]:=by
 unfold NI;obtain ⟨j,e⟩:∃j,st.aj.find? (λj=>j.Id == st.aj[i].Id)=some j:=by
  cases h:st.aj.find? (λj=>j.Id == st.aj[i].Id) with
  |some j=>simp_all
  |none=>
   have:=List.find?_eq_none.1 h _ (bG a)
   simp_all
 rw[e,xAd];have b:=List.find?_some e;simp only[nB] at b;obtain ⟨k,hk,rfl⟩:=iX (yB3 e);have:=hs.inj hk a b
 simp_all
def nj(st:cz)(a:ce):Int:=(NI st a.bj).Start+(NI st a.bj).aU
def cF(st:cz)(a:ce):oA:={ bK:=st.aT,To:=nj st a,az:=a.az,ae:=a.ae }
def nC(s:bo)(st:cz):fo:={ S:=s,aT:=st.aT,L:=st.ai.map (cF st),ay:=st.ay }
section
variable{s:bo}{st:cz}(hw:lr s st)(q:ba s st)
include hw q
theorem mI{a:ce}(d:a∈st.ai):∃i,∃h:i<st.aj.length,st.aj[i].Id=a.bj/\fj s st st.aj[i] a/\sU st.aj[i]=true/\NI st a.bj=st.aj[i]:=by obtain ⟨j,hj,P⟩:=eY.mem q.cr a d;obtain ⟨e,f⟩:=SE.1 hj;obtain ⟨i,b,rfl⟩:=iX e;exact ⟨i,b,P.CO.symm,P,f,by rw[P.CO];exact EE q.bg.bF b⟩
theorem E_{a:ce}(b:a∈st.ai):st.aT<nj st a/\nj st a<=st.aT+65536:=by
 obtain ⟨i,d,_,P,_,e⟩:=mI hw q b;have j:=q.bg.each _ (bG d);have f:=P.now;have g:=j.start;have h:=j.ok.wall
 grind [nj]
omit hw q in
theorem MJ{H:List aL}{A:List ce}{F:List aC}(h:eY s st H A F):A.length=H.length:=by
 induction H generalizing A F with
 |nil=>rw[show A=[] from h];rfl
 |cons j H ih=>obtain ⟨b,a,rfl,_,_,d⟩:=h;grind
theorem jv:st.ai.length<=st.aj.length:=by rw[MJ q.cr];grind
omit hw q in
theorem wQ(L:List oA)(k t:Int)(c:Nat):cmp c (aN L k t)=(L.map λu=>cmp c (jJ u k t)).sum:=by
 have:∀(L:List oA)(r:aC),cmp c (L.foldl (λr u=>BP r (jJ u k t)) r)=cmp c r+(L.map λu=>cmp c (jJ u k t)).sum:=by
  intro L;induction L with
  |nil=>simp_all
  |cons u L ih=>grind [wu]
 grind [aN.eq_1,OE]
omit hw q in
theorem caps_of{H:List aL}{A:List ce}{F:List aC}(h:eY s st H A F)(n:∀r∈F,aM r)(a:∀j∈H,aM j.az)(k:Nat)(hk:k<F.length)(t:Int)(c:Nat):((A.map (cF st)).map λu=>cmp c (jJ u k t)).sum<=cmp c F[k]:=by
 induction H generalizing A F with
 |nil=>
  rw[show A=[] from h]
  grind [vC,List.getElem_mem]
 |cons j H ih=>
  obtain ⟨b,p,rfl,P,e,f⟩:=h;have d:k<(lc F b).length:=by grind [zeL]
  have:=ih f (uQ e) (λi g=>a i (lI _ g)) d;rw[nO d] at this;unfold q_ at this;rw[Aq] at this;rw[ru,ru,List.sum_cons];have le:cmp c (jJ (cF st b) k t)<=cmp c (mulR (dw b.ae k) b.az):=by
   unfold jJ;split
   ·exact Jz _
   ·rw[OE];rw[Bf];have o:=rH (l:=b.ae) (λx m=>by have:=(P.pp.shares.mem x m);omega) k;rw[P.need];exact yBO o (vC.1 (a j (ql ..)) c).1
  omega
theorem NM:∀u∈(nC s st).L,kO u s.am.length:=λu f=>by
 obtain ⟨a,d,rfl⟩:=gD.1 f;obtain ⟨i,g,_,P,_,e⟩:=mI hw q d;have j:=q.bg.each _ (bG g);have b:=E_ hw q d;have n:=q.nums.now;refine ⟨P.pp.shares,hw.sh a d,?_,n.1,?_⟩
 ·show aM a.az;rw[P.need];exact j.ok.need
 ·show nj st a<=_;omega
theorem JQ(a:st.aj.length<=30):iV (nC s st):={
 spec:=q.spec
 now:=q.nums.now
 cu:=q.gM.cu
 used:=NM hw q
 yg:=by have:=jv hw q;show (st.ai.map (cF st)).length<=100;grind }
theorem Yt(f:st.aj.length<=30):Xu (nC s st):={
 ref:=JQ hw q f
 lo:=λu hu=>by obtain ⟨a,d,rfl⟩:=gD.1 hu;exact ⟨rfl,(E_ hw q d).1⟩
 caps:=λi k hk t c=>by
  have o:=caps_of q.cr q.spec.nodes.ok (λj hj=>(q.bg.each j (SE.1 hj).1).ok.need) k hk t c;rw[wQ];show ((((st.ai.map (cF st)).take i)).map λu=>cmp c (jJ u k t)).sum<=cmp c s.am[k];have p:((st.ai.map (cF st)).map λu=>cmp c (jJ u k t)).sum=(((st.ai.map (cF st)).take i).map λu=>cmp c (jJ u k t)).sum+(((st.ai.map (cF st)).drop i).map λu=>cmp c (jJ u k t)).sum:=by grind [List.take_append_drop]
  have N:0<=(((st.ai.map (cF st)).drop i).map λu=>cmp c (jJ u k t)).sum:=by
   have:∀M:List oA,(∀u∈M,kO u s.am.length)->0<=(M.map λu=>cmp c (jJ u k t)).sum:=by
    intro M;induction M with
    |nil=>simp_all
    |cons u M ih=>
     intro m;have:=ih λv r=>m v (lI _ r);have:=Fs (m u (ql ..)) k t c
     grind
   exact this _ λu hu=>NM hw q u (yBb hu)
  omega
 live:=λb h=>(q.gM.live b h).2
 yb:=λb h t o p=>dY λc=>by
  rw[wQ,OE];show ((st.ai.map (cF st)).map λu=>cmp c (jJ u b.Node t)).sum=0;have:∀x∈(st.ai.map (cF st)).map λu=>cmp c (jJ u b.Node t),x=0:=λx A=>by
   obtain ⟨u,hu,rfl⟩:=gD.1 A;obtain ⟨a,d,rfl⟩:=gD.1 hu;obtain ⟨i,hi,E,P,_,e⟩:=mI hw q d;by_cases g:∃y∈a.ae,y.Node=b.Node
   ·obtain ⟨y,G,K⟩:=g;have:=q.gM.yb a d _ (bG hi) E y G b h K.symm;unfold jJ;rw[if_neg,OE];show ¬(st.aT<=t/\t<nj st a)
    grind [nj]
   ·have z:dw a.ae b.Node=0:=by
     grind [zR]
    unfold jJ;split
    ·show cmp c (mulR (dw a.ae b.Node) a.az)=0
     grind [Bf]
    grind [OE]
  have n:∀M:List Int,(∀x∈M,x=0)->M.sum=0:=by
   intro M;induction M with
   |nil=>simp_all
   |cons x M ih=>simp_all
  simp_all }
theorem Gf:zc2 5000 s st=some (nC s st):=by
 have d:=hw.bg;have n:=hw.cr;unfold zc2;refine bQ.eq (iS st.ai.length (λi x=>x=((i:Int),s.am,s.aF,s.aq,s.aO,s.ah.jb,s.ah.cH,s.ah.eR,s.ah.bB,s.bJ,s.Mode,s.aj,s.gU,s.aE,s.aW,s.cP,s.In,s.Out,s.bI,st.aT,(st.ai.take i).map (cF st),st.ay)) (λi x f a b g=>?_) (λx f b=>?_) rfl (by omega))
 ·subst b;have h:=bG a;obtain ⟨k,hk,m,P,_,e⟩:=mI hw q h;have j:=q.bg.each _ (bG hk);have o:=j.ok.wall;have p:=j.ok.start;dsimp only;rw[if_pos (cS a),bZ a,aD,<-m,Ou d q.bg.bF hk,aD,bZ hk,aD,wr (x:=_+_) (by omega) (by omega)];unfold zbp;dsimp only;rw[FW (by grind),aD,zq (by grind),aD,aD,bU (show i<1000000 by omega)];refine g _ ?_;rw[DC a,Yb];have:cF st st.ai[i]={ bK:=st.aT,To:=st.aj[k].Start+st.aj[k].aU,az:=st.ai[i].az,ae:=st.ai[i].ae }:=by
   grind [cF,nj]
  simp_all
 ·subst b;dsimp only;rw[if_neg (by simp),a_,uj];rfl
theorem Ve{i:Nat}(a:i<st.aj.length)(h:sU st.aj[i]=true):wE 5000 st.aj[i]=some (st.aj[i].Start+st.aj[i].aU):=by have j:=q.bg.each _ (bG a);have b:=j.ok.wall;have d:=j.ok.start;unfold wE eL;rw[gB,uB j.ok,aD,if_neg (by simp),aD];dsimp only;unfold sU at h;rw[h,if_neg (by simp),wr (by omega) (by omega)]
theorem qc(d:st.aj.length<=30){h:List (Int×ce)}(m:VR 5000 st.aG.aq st.aj h st.aT st.Next st.eo st.ay st.oF st.aG.am=some st):∃nodes,zdq 5000 st.aG.aq st.aj h s.am s.aF s.aq s.aO s.ah.jb s.ah.cH s.ah.eR s.ah.bB s.bJ s.Mode s.aj s.gU s.aE s.aW s.cP s.In s.Out s.bI st.aT st.Next st.eo st.ay st.oF st.aG.am=some (.inr (nodes,st.aT,s.aF))/\PR nodes (nC s st) (1+2 * (st.ai.length+st.ay.length)):=by
 have n:=hw.bg;have v:=hw.cr;obtain ⟨r,e,nodes,rfl,hp⟩:=NZ (Yt hw q d);have o:(nC s st).L.length=st.ai.length:=wj ..;rw[o] at hp;refine ⟨nodes,?_,hp⟩;unfold zdq;rw[m,aD];have z:Cs ({ az:=({ bP:=0,Mem:=0,bS:=0,bT:=0 }:aC),ae:=[],oO:=0 }:jQ) 0 (st.ai.length:Int)=some []:=by
  unfold Cs
  grind
 rw[z,aD];refine bQ.eq (iS st.ai.length (λi x=>x=((i:Int),(st.ai.take i).map λa=>eC (cF st a))) (λi x f b g p=>?_) (λx f g=>?_) rfl (by omega))
 ·subst g;have t:=bG b;obtain ⟨k,hk,u,P,hj,y⟩:=mI hw q t;dsimp only;rw[if_pos (cS b),bZ b,aD,<-u,LQ n q.bg.bF hk (by have:=hw.after _ (bG hk);omega),aD,Ve hw q hk hj,aD,zq (by grind),aD,bU (show i<1000000 by omega)];refine p _ ?_;rw[DC b,Yb];have:eC (cF st st.ai[i])={ az:=st.ai[i].az,ae:=st.ai[i].ae,oO:=st.aj[k].Start+st.aj[k].aU }:=by
   grind [eC,cF,nj]
  simp_all
 ·subst g;dsimp only;rw[if_neg (by simp),nP hw.spec,aD,uj];have:(st.ai.map λa=>eC (cF st a))=(nC s st).L.map eC:=by show _=(st.ai.map (cF st)).map eC;simp_all
  rw[this];have A:zeF 5000 ((nC s st).L.map eC) s st.aT st.ay=some (.inr (nodes,st.aT,s.aF)):=e
  grind [a_]
end
end Go.Plain
end
section
namespace Go.Plain
open Go.Abs
theorem few30P(s:bo)(st:cz):bQ (zcI 5000 s st) λr=>r=true->st.aj.length<=30:=by
 simp only[zcI,gB];refine (few07 s).bind λr b=>?_;simp only[if_true,a_,bz];refine ⟨by simp,λh=>?_⟩;refine (few17 st.aj).bind λd a=>?_;simp only[bz,a_];refine ⟨by simp,λh=>?_⟩;simp only[gF,bA,not_or,Int.not_lt,iU,pc] at h;obtain ⟨⟨⟨⟨h,e⟩,g⟩,k⟩,m⟩:=h;have n:=a h;refine wV st.ai (λ_ q=>True) (λi f h _ b=>?_) (λf hq=>?_) (by omega)
 ·simp only[cS h,if_true,bZ h,Option.bind_some,bU (show i<1000000 by omega),bz,a_,bA]
  simp_all
 ·simp only[fe,b_,cw,a_];omega
def ca(s:bo)(j:aL):A_:={ Part:=((s.aq[j.Queue.toNat]?).getD default).Part,aK:=j.aK,az:=j.az,aU:=j.aU }
theorem qI{s:bo}{j:aL}(hq:0<=j.Queue/\j.Queue<s.aq.length):∃h:j.Queue.toNat<s.aq.length,aB s.aq j.Queue=some s.aq[j.Queue.toNat]/\ca s j={ Part:=s.aq[j.Queue.toNat].Part,aK:=j.aK,az:=j.az,aU:=j.aU }:=by grind [Gm,ca]
theorem jr{s:bo}{st:cz}{q:fo}(k:bp s)(eq:q.S=s){j:aL}(h:kE s st j):dM q (ca s j):=by obtain ⟨a,_,e⟩:=qI ⟨h.ok.queue.1,h.queue⟩;have b:=k.iu.ok _ (bG a);have m:=h.ok.many;rw[e];exact ⟨by rw[eq];exact b.part,by grind,h.ok.need,h.ok.nU,h.ok.wall⟩
def named(j:aL)(r:dt×Bool):dt×Bool:=if r.2=true then ({ bj:=j.Id,At:=r.1.At,ae:=r.1.ae },true) else ({ bj:=0,At:=0,ae:=[] },false)
section
variable{nodes:List (List bO)}{q:fo}{L:Nat}(hL:L<=200)(hq:iV q)(hp:PR nodes q L){st:cz}{j:aL}(hj:kE q.S st j)
include hL hq hp hj
theorem Na:∃r,(zbC 5000 nodes j q.S.am q.S.aF q.S.aq q.S.aO q.S.ah.jb q.S.ah.cH q.S.ah.eR q.S.ah.bB q.S.bJ q.S.Mode q.S.aj q.S.gU q.S.aE q.S.aW q.S.cP q.S.In q.S.Out q.S.bI q.aT q.S.aF=some (named j r))/\zbX 5000 q.S q j=some (named j r)/\∃T,zC q T/\rz q (ca q.S j) T r:=by
 have hw:=jr hq.spec rfl hj;obtain ⟨r,a,b,T,g,d⟩:=Ln hL hq hp hw;obtain ⟨n,e,i⟩:=qI ⟨hj.ok.queue.1,hj.queue⟩;have k:=hj.queue;have m:=hj.ok.queue.1;rw[i] at a b;refine ⟨r,?_,?_,T,g,d⟩
 ·unfold zbC;rw[nP (fZ hq.spec),aD,if_neg (by simp_all),e,aD];dsimp only at a;rw[a,aD];unfold named
  grind
 ·unfold zbX gX;rw[e,aD,aD,b,aD,gB];unfold named;by_cases h:r.2=true
  ·simp_all
  ·have f:r.2=false:=by simp_all
   rw[if_neg h,if_neg h,(d.no f).2,f]
end
section
variable{nodes:List (List bO)}{q:fo}{L:Nat}(hL:L<=200)(hq:iV q)(hp:PR nodes q L){w:A_}(hw:dM q w)
include hL hq hp hw
end
end Go.Plain
end
section
namespace Go.Plain
open Go.Abs
theorem JN{l:List cU}{n:Int}(h:bn l n){y:cU}(k:∀x∈l,x.Node<y.Node)(a:0<=y.Node/\y.Node<n)(hm:1<=y.aK/\y.aK<=64):bn (l++[y]) n:=λi b=>by
 rw[AH,xAi] at b;by_cases g:i<l.length
 ·have s:=h i g;have e:(l++[y])[i]'(by omega)=l[i]:=yBL g;rw[e];refine ⟨?_,s.lt,s.lo,s.hi⟩;have:KV ((l++[y]).map (·.Node)) i=KV (l.map (·.Node)) i:=by
   cases i with
   |zero=>rfl
   |succ i=>grind [rD]
  rw[this];exact s.up
 ·have d:i=l.length:=by omega
  subst d;have e:(l++[y])[l.length]'(by simp)=y:=by simp
  rw[e];refine ⟨?_,a.2,hm.1,hm.2⟩;cases f:l.length with
  |zero=>show (-1:Int)<y.Node;omega
  |succ i=>grind [rD]
section
variable{F:List aC}{l:List Int}{need:aC}(hP:ib F l)(hR:iY l F.length)(hn:aM need)(hz:need≠bR)
include hP hR hn hz
structure OT (F:List aC) (need:aC) (l:List Int) (x:Int×List cU) (many:Int):Prop where
 shares:bn x.2 F.length
 mem:∀y∈x.2,y.Node∈l/\y.aK<=cG (ee F y.Node) need
 Wb:x.1+lU x.2=many
 left:x.1=if many<=cO F l need then 0 else many-cO F l need
theorem yK{many:Int}(hm:1<=many)(i:Nat):OT F need (l.take i) (qR F need (l.take i) many) many:=by
 induction i with
 |zero=>refine ⟨λi h=>by grind [qR],λy a=>by grind [qR],by simp[qR,lU],?_⟩;simp only[qR,List.take_zero,List.foldl_nil,cO,List.map_nil,List.sum_nil];omega
 |succ i ih=>
  by_cases d:i<l.length
  ·have c:=lF hP hn (bG d);have st:=vG hP hn hz d many;have rs:=yx hP hn hz d;have up:∀n∈l.take i,n<l[i]:=λn e=>by
    obtain ⟨j,hj,rfl⟩:=KX.1 e;rw[BY] at hj;rw[Po];have:∀m,j<m->∀(hm:m<l.length),l[j]<l[m]:=by
     intro m;induction m with
     |zero=>omega
     |succ m g=>
      intro k hm;have s:=(hR (m+1) hm).1
      grind [rk]
    grind
   have b:∀n,n∈l.take (i+1)↔n∈l.take i∨n=l[i]:=λn=>by rw[DC d,gp,zi]
   have p:=ih.left;have r:=y_ hP hn hz (i:=i);rw[st];generalize qR F need (l.take i) many=x at *;have t:0<=x.1:=by omega
   unfold Gg;by_cases q:zw x.1 (cG (ee F l[i]) need)=0
   ·rw[if_pos q];refine ⟨ih.shares,λy a=>⟨(b _).2 (.inl (ih.mem y a).1),(ih.mem y a).2⟩,ih.Wb,?_⟩
    grind [zw]
   ·rw[if_neg q];have o:=hP.node _ (bG d);have f:1<=zw x.1 (cG (ee F l[i]) need)/\zw x.1 (cG (ee F l[i]) need)<=64/\zw x.1 (cG (ee F l[i]) need)<=cG (ee F l[i]) need:=by
     unfold zw at q ⊢;omega
    refine ⟨JN ih.shares (λy a=>up _ (ih.mem y a).1) o ⟨f.1,f.2.1⟩,λy a=>?_,?_,?_⟩
    ·rcases gp.1 a with a | a
     ·exact ⟨(b _).2 (.inl (ih.mem y a).1),(ih.mem y a).2⟩
     simp_all
    ·grind [OT.Wb,lU]
    grind [zw]
  grind [List.take_of_length_le]
theorem Va{many:Int}(h:(wh F l many need).2=true):bn (wh F l many need).1 F.length/\lU (wh F l many need).1=many/\(∀y∈(wh F l many need).1,y.Node∈l)/\∀(n:Nat)(hn:n<F.length),jU (mulR (dw (wh F l many need).1 n) need) F[n]∨dw (wh F l many need).1 n=0:=by
 obtain ⟨m,u⟩:=mF.1 h;have P:=yK hP hR hn hz m l.length;rw[uj] at P;have e:wh F l many need=((qR F need l many).2,true):=by unfold wh;simp_all
 rw[e];have z:=P.left;rw[if_pos u] at z;refine ⟨P.shares,by grind [OT.Wb],λy f=>(P.mem y f).1,λn p=>?_⟩;dsimp only;by_cases g:∃y∈(qR F need l many).2,y.Node=(n:Int)
 ·left;obtain ⟨y,f,v⟩:=g;obtain ⟨m1,r⟩:=P.mem y f;obtain ⟨i,x,rfl⟩:=iX f;have o:=J_ P.shares x;rw[v] at o m1 r;have A:ee F (n:Int)=F[n]:=AB p;have t:=hP.Tl _ m1;rw[A] at r t;have k:=se t hn;rw[o];have d:∀a b:Int,(a,b)∈Fv F[n] need->0<=b->(qR F need l many).2[i].aK * b<=a:=λa b E G=>by
   have m:=k.fit _ E;dsimp only at m;have:(qR F need l many).2[i].aK * b<=cG F[n] need * b:=yAO r G;omega
  intro c;rw[Bf]
  match c with
  |0=>exact d _ _ (by simp[Fv];exact .inl ⟨rfl,rfl⟩) hn.FR.1
  |1=>exact d _ _ (by simp[Fv];exact .inr (.inl ⟨rfl,rfl⟩)) hn.mem.1
  |2=>exact d _ _ (by simp[Fv];exact .inr (.inr (.inl ⟨rfl,rfl⟩))) hn.Io.1
  |_+3=>exact d _ _ (by simp[Fv];exact .inr (.inr (.inr ⟨rfl,rfl⟩))) hn.Jc.1
 grind [zR]
end
def AF(q:fo)(u:oA):fo:={ q with L:=q.L++[u] }
open Classical in
theorem Uj(q:fo)(u:oA)(k t:Int):bq (AF q u) k t=if Dd q.ay k t then bR else fG (fG (ee q.S.am k) (aN q.L k t)) (jJ u k t):=by
 unfold bq AF;dsimp only;by_cases h:Dd q.ay k t
 ·simp_all
 ·rw[if_neg h,if_neg h,nV,HM]
theorem mulR_le{n:Int}{need v:aC}(hn:0<=n)(a:aM need)(h:jU (mulR n need) v∨n=0)(b:aM v):jU (mulR n need) v:=by
 rcases h with h | h
 ·exact h
 ·intro c
  grind [vC,Bf]
theorem Vb{nodes:List (List bO)}{q:fo}{L:Nat}(hL:L<=200)(hq:iV q)(hp:PR nodes q L){cD a:Int}{sh:List cU}{need:aC}(hs:bn sh q.S.am.length)(hn:aM need)(hw:1<=a/\a<=65536)(A:q.aT<=cD)(Y:cD<=1099511627776)
  (d:∀(k:Nat)(h:k<q.S.am.length) t,cD<=t->t<cD+a->jU (mulR (dw sh k) need) (bq q k t)) :
  ∃b,zch 5000 nodes cD sh need a q.aT=some (b,0)/\PR b (AF q { bK:=cD,To:=cD+a,az:=need,ae:=sh }) (L+2):=by
 have i:=hp.len;have nn:=hq.spec.nodes.hi;have E:=hq.now;have sl:sh.length<=300:=by have:=jG hs (by omega);omega
 obtain ⟨Z,G,K⟩:=oX sh nodes.length sl;have:=K.2 (by simp_all);subst this;obtain ⟨r2,M,N⟩:=Ut need;have:=N.2 hn;subst this;obtain ⟨r,e,O,P,p⟩:=CA (by omega) hp.cD (by omega) (by simp_all) sl hn A (show cD<cD+a by omega) (by omega) λk hk t v ta tb Q=>by
  rw[(hp.iff hk (by omega)).1 Q]
  grind
 refine ⟨r.1,?_,?_⟩
 ·unfold zch;rw[gB,if_neg (by simp_all),G,aD,if_neg (by simp),M,aD];have R:decide (a<1)=false:=by simp_all
  have U:decide (a > 65536)=false:=by simp_all
  dsimp only;rw[R,U,if_neg (by simp),wr (x:=cD+a) (by omega) (by omega),e,aD,O]
 ·refine ⟨by rw[P,i];rfl,⟨λk hk=>?_,λk hk W=>?_⟩,λk hk t X=>?_⟩
  ·have T:=p k (by omega) hk;exact ⟨T.ok,by have:=T.len;have:=(hp.cD.each k (by omega)).2;omega⟩
  ·have T:=p k (by omega) hk;have z:=(hp.cD.each k (by omega)).1.ne;rw[T.first z W,hp.cD.first k (by omega) z];rfl
  ·have n:k<nodes.length:=by omega
   have T:=p k n hk;have u:q.aT<=t:=X;have v:=T.val t _ (hp.val k n t u);rw[Uj];by_cases g:cD<=t/\t<cD+a
   ·rw[if_pos g] at v;have y:jJ { bK:=cD,To:=cD+a,az:=need,ae:=sh } k t=mulR (dw sh k) need:=by unfold jJ;simp_all
    rw[y];by_cases m:Dd q.ay k t
    ·rw[if_pos m];have o:bq q k t=bR:=by unfold bq;simp_all
     have f:=d k (by omega) t g.1 g.2;rw[o] at f v;have:fG bR (mulR (dw sh k) need)=bR:=dY λc=>by
      have h2:=f c;have h3:=iq (o_ hs k) (vC.1 hn c)
      grind [Aq,OE,Bf]
     simp_all
    ·rw[if_neg m];have o:bq q k t=fG (ee q.S.am k) (aN q.L k t):=by unfold bq;simp_all
     simp_all
   ·rw[if_neg g] at v;have y:jJ { bK:=cD,To:=cD+a,az:=need,ae:=sh } k t=bR:=by unfold jJ;grind
    rw[y];by_cases m:Dd q.ay k t
    ·rw[if_pos m];have o:bq q k t=bR:=by unfold bq;simp_all
     simp_all
    ·rw[if_neg m];have o:bq q k t=fG (ee q.S.am k) (aN q.L k t):=by unfold bq;simp_all
     rw[o] at v;have:fG (fG (ee q.S.am k) (aN q.L k t)) bR=fG (ee q.S.am k) (aN q.L k t):=dY λc=>by simp only[Aq,OE];omega
     simp_all
end Go.Plain
end
section
namespace Go.Plain
open Go.Abs
abbrev K3:=Int×Int×Int
def SH(u v:K3):Prop:=u.1<v.1∨(u.1=v.1/\(u.2.1<v.2.1∨(u.2.1=v.2.1/\u.2.2<v.2.2)))
instance (u v:K3):Decidable (SH u v):=by unfold SH;infer_instance
theorem cmp1{N:Nat}(a b:Int):fK N a b=some (if a<b then -1 else if a > b then 1 else 0):=by
 simp only[fK,cmp_isNaN_int,Option.bind_some];simp;split
 ·rfl
 ·split <;> rfl
theorem cmp3{N:Nat}(E:4<N)(u v:K3):bQ (zaz N ([u.1,u.2.1,u.2.2]:List Int) ([v.1,v.2.1,v.2.2]:List Int)) λr=>(r<0↔SH u v):=by
 obtain ⟨N,rfl⟩:∃M,N=M+5:=⟨N-5,by omega⟩;obtain ⟨a,b,c⟩:=u;obtain ⟨d,e,f⟩:=v;unfold zaz;have o:i64.wrap (0+1)=1:=rfl;have w1:i64.wrap (1+1)=2:=rfl;have w2:i64.wrap (2+1)=3:=rfl;have p:∀x y z:Int,aB [x,y,z] 0=some x:=λ_ _ _=>rfl;have t:∀x y z:Int,aB [x,y,z] 1=some y:=λ_ _ _=>rfl;have A:∀x y z:Int,aB [x,y,z] 2=some z:=λ_ _ _=>rfl;simp only[bC,List.length_cons,List.length_nil,cmp1,Option.bind_some,o,w1,w2,p,t,A,SH];simp;by_cases g:a<d
 ·rw[if_pos g];simp[a_];omega
 ·rw[if_neg g];by_cases h:d<a
  ·rw[if_pos h];simp[a_];omega
  ·rw[if_neg h];by_cases i:b<e
   ·rw[if_pos i];simp[a_];omega
   ·rw[if_neg i];by_cases k:e<b
    ·rw[if_pos k];simp[a_];omega
    ·rw[if_neg k];by_cases m:c<f
     ·rw[if_pos m];simp[a_];omega
     ·rw[if_neg m];by_cases n:f<c
      ·rw[if_pos n];simp[a_];omega
      ·rw[if_neg n];simp[a_];omega
def Sv(p:List K3)(x:Int):K3:=p.getD x.toNat (0,0,0)
def Rw(p:List K3)(x:Int):Prop:=0<=x/\x<p.length
theorem Xg{p:List K3}{x:Int}(h:Rw p x):aB p x=some (Sv p x):=by obtain ⟨a,e⟩:=Gm h.1 h.2;rw[e,Sv,yAT,eS a];rfl
theorem Dl{N:Nat}(d:4<N){p:List K3}{x y:Int}(e:Rw p x)(f:Rw p y) :
  bQ ((aB p x).bind λa=>(aB p y).bind λb=>(zaz N ([a.1,a.2.1,a.2.2]:List Int) ([b.1,b.2.1,b.2.2]:List Int)).bind λr=>some r) λr=>(r<0↔SH (Sv p x) (Sv p y)):=by
 rw[Xg e,Xg f,aD,aD];exact (cmp3 d _ _).bind λr g=>a_.2 g
theorem dW{α:Type}{L R:List α}{y:α}{i:Int}(h:i=L.length):aB (L++y::R) i=some y:=by subst h;rw[bZ (by simp)];simp
theorem jL{α:Type}{L R:List α}{y z:α}{i:Int}(h:i=L.length):(L++y::R).set i.toNat z=L++z::R:=by subst h;simp
theorem Bn{x y:Int}(h:x=y)(a:-9000000<=y)(b:y<9000000):i64.wrap x=y:=by rw[wr (by omega) (by omega)];exact h
theorem up_ok{N:Nat}{L V R:List Int}{y:Int}{k E:Int}(hk:k=L.length)(t:E=L.length+V.length)(O:V.length<N)(hs:(L++y::V++R).length<=1000) :
  bC (λh (d:Int×List Int)=>
     if (decide (d.1<E))=true then
      (aB d.2 (i64.wrap (d.1+1))).bind λe=>
      (aB d.2 d.1).bind λi=>
      (aB d.2 d.1).bind λu=>
      (aB (d.2.set d.1.toNat e) (i64.wrap (d.1+1))).bind λz=>
      h ((i64.wrap (d.1+1)),((d.2.set d.1.toNat e).set (i64.wrap (d.1+1)).toNat i))
     else
      some d.2) N (k,L++y::V++R)=some (L++V++y::R):=by
 apply bQ.eq;simp only[AH,List.length_cons] at hs;refine lpM (I:=λx=>∃b g,x=((b.length:Int),b++y::g++R)/\b++g=L++V/\E=b.length+g.length) (m:=λx=>(E-x.1).toNat) (λx f A G=>?_) ⟨L,V,by rw[hk],rfl,t⟩ (by omega);obtain ⟨b,g,rfl,n,o⟩:=A;have p:=Dr List.length n;simp only[AH] at p;cases g with
 |nil=>simp only[List.length_nil] at o;rw[if_neg (by simp;omega),a_,<-n];simp
 |cons v a=>
  simp only[List.length_cons] at o p;have w:i64.wrap ((b.length:Int)+1)=((b++[y]).length:Nat):=Bn (by simp) (by simp;omega) (by simp;omega);have K:b++y::v::a++R=(b++[y])++v::(a++R):=by simp
  have r:b++y::v::a++R=b++y::(v::a++R):=by simp
  have M:b++v::(v::a++R)=(b++[v])++v::(a++R):=by simp
  simp only;rw[if_pos (by simp;omega),w,show aB (b++y::v::a++R) ((b++[y]).length:Nat)=some v from by rw[K];exact dW rfl,aD,
   show aB (b++y::v::a++R) (b.length:Int)=some y from by rw[r];exact dW rfl,Option.bind_some,Option.bind_some,r,jL rfl,M,dW (by simp),Option.bind_some,jL (by simp)]
  refine G _ ⟨b++[v],a,by simp,by rw[<-n];simp,by simp;omega⟩ (by simp;omega)
theorem dn_ok{N:Nat}{L V R:List Int}{y:Int}{k E:Int}(hk:k=L.length+V.length)(G:E=L.length)(K:V.length<N)(hs:(L++V++y::R).length<=1000) :
  bC (λi (a:Int×List Int)=>
      if (decide (a.1 > E))=true then
       (aB a.2 (i64.wrap (a.1-1))).bind λe=>
       (aB a.2 a.1).bind λn=>
       (aB a.2 a.1).bind λp=>
       (aB (a.2.set a.1.toNat e) (i64.wrap (a.1-1))).bind λr=>
       i ((i64.wrap (a.1-1)),((a.2.set a.1.toNat e).set (i64.wrap (a.1-1)).toNat n))
      else
       some a.2) N (k,L++V++y::R)=some (L++y::V++R):=by
 apply bQ.eq;simp only[AH,List.length_cons] at hs;refine lpM (I:=λx=>∃g d,x=(((L++g).length:Int),L++g++y::d)/\g++d=V++R) (m:=λx=>(x.1-E).toNat) (λx f t u=>?_) ⟨V,R,by rw[hk];simp,rfl⟩ (by simp;omega);obtain ⟨g,d,rfl,h⟩:=t;have o:=Dr List.length h;simp only[AH] at o;rcases List.eq_nil_or_concat g with rfl | ⟨b,v,rfl⟩
 ·rw[if_neg (by simp;omega),a_];simp at h;rw[h];simp
 ·simp only[yBV,AH,List.length_cons,List.length_nil] at o h ⊢;have w:i64.wrap (((L.length+(b.length+(0+1)):Nat):Int)-1)=((L++b).length:Nat):=Bn (by simp;omega) (by simp;omega) (by simp;omega);have z:L++(b++[v])++y::d=(L++b)++v::(y::d):=by simp
  have M:L++(b++[v])++y::d=(L++(b++[v]))++y::d:=rfl;have A:(L++(b++[v]))++v::d=(L++b)++v::(v::d):=by simp
  rw[if_pos (by simp;omega),w,show aB (L++(b++[v])++y::d) ((L++b).length:Nat)=some v from by rw[z];exact dW rfl,aD,
   dW (by simp),Option.bind_some,Option.bind_some,jL (by simp),A,dW (by simp),Option.bind_some,jL (by simp)]
  refine u _ ⟨b,v::d,by simp,by rw[<-h];simp⟩ (by simp;omega)
theorem Xf{N:Nat}{L U M V R:List Int}{a b n:Int}(ha:a=L.length)(hb:b=L.length+U.length+M.length)(hn:n=U.length)(E:V.length=U.length)(hN:U.length<N)(hs:(L++U++M++V++R).length<=1000) :
  bC (λr (d:Int×List Int)=>
          if (decide (d.1<n))=true then
           (aB d.2 (i64.wrap (b+d.1))).bind λp=>
           (aB d.2 (i64.wrap (a+d.1))).bind λt=>
           (aB d.2 (i64.wrap (a+d.1))).bind λG=>
           (aB (d.2.set (i64.wrap (a+d.1)).toNat p) (i64.wrap (b+d.1))).bind λK=>
           r ((i64.wrap (d.1+1)),((d.2.set (i64.wrap (a+d.1)).toNat p).set (i64.wrap (b+d.1)).toNat t))
          else
           some d.2) N (0,L++U++M++V++R)=some (L++V++M++U++R):=by
 apply bQ.eq;simp only[AH] at hs;refine lpM (I:=λx=>∃h k i o,x=((U.length:Int)-k.length,h++k++i++o++R)/\h++o++i++k++R=L++V++M++U++R/\o.length=k.length/\k.length<=U.length/\(h.length:Int)=a+U.length-k.length/\(h.length:Int)+k.length+i.length=b+U.length-k.length)
  (m:=λx=>(n-x.1).toNat) (λx f O P=>?_) ⟨L,U,M,V,by simp,rfl,E,by omega,by omega,by omega⟩ (by omega)
 obtain ⟨h,k,i,o,rfl,y,z,Q,T,W⟩:=O;cases k with
 |nil=>
  cases o with
  |nil=>rw[if_neg (by simp;omega),a_,<-y]
  |cons=>simp at z
 |cons u e=>
  cases o with
  |nil=>simp at z
  |cons v g=>
   simp only[List.length_cons] at z Q T W;have X:=Dr List.length y;simp only[AH,List.length_cons] at X;have Y:i64.wrap (a+((U.length:Int)-((u::e).length:Nat)))=(h.length:Nat):=Bn (by simp;omega) (by omega) (by omega);have Z:i64.wrap (b+((U.length:Int)-((u::e).length:Nat)))=((h++u::e++i).length:Nat):=Bn (by simp;omega) (by simp;omega) (by simp;omega);have wc:i64.wrap (((U.length:Int)-((u::e).length:Nat))+1)=(U.length:Int)-(e.length:Nat):=Bn (by simp;omega) (by omega) (by omega);have e1:h++u::e++i++v::g++R=(h++u::e++i)++v::(g++R):=by simp
   have A:h++u::e++i++v::g++R=h++u::(e++i++v::g++R):=by simp
   have e3:h++v::(e++i++v::g++R)=(h++v::e++i)++v::(g++R):=by simp
   simp only;rw[if_pos (by simp;omega),Y,Z,wc,show aB (h++u::e++i++v::g++R) ((h++u::e++i).length:Nat)=some v from by rw[e1];exact dW rfl,aD,
    show aB (h++u::e++i++v::g++R) (h.length:Nat)=some u from by rw[A];exact dW rfl,Option.bind_some,Option.bind_some,A,jL rfl,e3,dW (by simp),Option.bind_some,jL (by simp)]
   refine P _ ⟨h++[v],e,i++[u],g,by simp,by rw[<-y];simp,by omega,by omega,by simp;omega,by simp;omega⟩ (by simp;omega)
theorem YM{R:Type}{b:(Int×Int->Option R)->Int×Int->Option R}{Q:R->Prop}{lo a N:Nat}(G:Nat->Prop)(h:lo<=a)(v:a<N)
  (hs:∀f (s r:Nat),lo<=s->s<r->r<=a->(G ((s+r) / 2)->bQ (f (((((s+r) / 2:Nat):Int)+1),(r:Int))) Q)->(¬G ((s+r) / 2)->bQ (f ((s:Int),(((s+r) / 2:Nat):Int))) Q)->bQ (b f ((s:Int),(r:Int))) Q)
  (o:∀f (s:Nat),lo<=s->s<=a->(s=lo∨G (s-1))->(s=a∨¬G s)->bQ (b f ((s:Int),(s:Int))) Q):bQ (bC b N ((lo:Int),(a:Int))) Q:=by
 refine lpM (I:=λx=>∃s r:Nat,x=((s:Int),(r:Int))/\lo<=s/\s<=r/\r<=a/\(s=lo∨G (s-1))/\(r=a∨¬G r)) (m:=λx=>(x.2-x.1).toNat) (λx f p i=>?_) ⟨lo,a,rfl,by omega,h,by omega,.inl rfl,.inl rfl⟩ (by simp;omega);obtain ⟨s,r,rfl,d,t,e,k,n⟩:=p;rcases XX t with u | rfl
 ·refine hs f s r d u e (λg=>i _ ⟨(s+r) / 2+1,r,by simp,by omega,by omega,e,.inr (by simpa using g),n⟩ (by simp;omega)) (λg=>i _ ⟨s,(s+r) / 2,rfl,d,by omega,by omega,k,.inr g⟩ (by simp;omega))
 ·exact o f s d e k n
end Go.Plain
end
section
namespace Go.Plain
open Go.Abs
theorem qj{R:Type}{a b:Nat}{o:Option R}(h:a=b):Ck a b o=o:=by subst h;simp[Ck]
theorem rot_ok {N:Nat} {L U V R:List Int} {m i j:Int} (hm:m=L.length+U.length) (hi:i=U.length) (hj:j=V.length) (hU:0<U.length) (hV:0<V.length) (hN:U.length+V.length<N) (hs:(L++U++V++R).length≤1000) :
    bC (fun u (d:Int×Int×List Int)=>
               if (d.1 != d.2.1)=true then
                 if (decide (d.1 > d.2.1))=true then
                   (
                     bC (fun P (k:Int×List Int)=>
                       if (decide (k.1<d.2.1))=true then
                         (aB k.2 (i64.wrap (m+k.1))).bind fun v=>
                         (aB k.2 (i64.wrap ((i64.wrap (m-d.1))+k.1))).bind fun Q=>
                         (aB k.2 (i64.wrap ((i64.wrap (m-d.1))+k.1))).bind fun aa=>
                         (aB (k.2.set (i64.wrap ((i64.wrap (m-d.1))+k.1)).toNat v) (i64.wrap (m+k.1))).bind fun ab=>
                         P ((i64.wrap (k.1+1)),((k.2.set (i64.wrap ((i64.wrap (m-d.1))+k.1)).toNat v).set (i64.wrap (m+k.1)).toNat Q))
                       else
                         some k.2) N (0,d.2.2)).bind fun y=>
                   Ck d.2.2.length y.length <|
                   u ((i64.wrap (d.1-d.2.1)),d.2.1,y)
                 else
                   (
                     bC (fun T (o:Int×List Int)=>
                       if (decide (o.1<d.1))=true then
                         (aB o.2 (i64.wrap ((i64.wrap ((i64.wrap (m+d.2.1))-d.1))+o.1))).bind fun z=>
                         (aB o.2 (i64.wrap ((i64.wrap (m-d.1))+o.1))).bind fun W=>
                         (aB o.2 (i64.wrap ((i64.wrap (m-d.1))+o.1))).bind fun ad=>
                         (aB (o.2.set (i64.wrap ((i64.wrap (m-d.1))+o.1)).toNat z) (i64.wrap ((i64.wrap ((i64.wrap (m+d.2.1))-d.1))+o.1))).bind fun af=>
                         T ((i64.wrap (o.1+1)),((o.2.set (i64.wrap ((i64.wrap (m-d.1))+o.1)).toNat z).set (i64.wrap ((i64.wrap ((i64.wrap (m+d.2.1))-d.1))+o.1)).toNat W))
                       else
                         some o.2) N (0,d.2.2)).bind fun A=>
                   Ck d.2.2.length A.length <|
                   u (d.1,(i64.wrap (d.2.1-d.1)),A)
               else
                 (
                   bC (fun X (p:Int×List Int)=>
                     if (decide (p.1<d.1))=true then
                       (aB p.2 (i64.wrap (m+p.1))).bind fun E=>
                       (aB p.2 (i64.wrap ((i64.wrap (m-d.1))+p.1))).bind fun Y=>
                       (aB p.2 (i64.wrap ((i64.wrap (m-d.1))+p.1))).bind fun ak=>
                       (aB (p.2.set (i64.wrap ((i64.wrap (m-d.1))+p.1)).toNat E) (i64.wrap (m+p.1))).bind fun an=>
                       X ((i64.wrap (p.1+1)),((p.2.set (i64.wrap ((i64.wrap (m-d.1))+p.1)).toNat E).set (i64.wrap (m+p.1)).toNat Y))
                     else
                       some p.2) N (0,d.2.2)).bind fun Z=>
                 some Z) N (i,j,L++U++V++R)=some (L++V++U++R):=by
  apply bQ.eq
  simp only [AH] at hs
  refine lpM (I:=fun x=>∃r h g t,x=((h.length:Int),(g.length:Int),r++h++g++t)∧r++g++h++t=L++V++U++R∧m=r.length+h.length∧0<h.length∧0<g.length∧h.length≤U.length∧g.length≤V.length) (m:=fun x=>(x.1+x.2.1).toNat) (fun x f hI hr=>?_) ⟨L,U,V,R,by rw [hi,hj],rfl,hm,hU,hV,by omega,by omega⟩ (by simp; omega)
  obtain ⟨r,h,g,t,rfl,O,h2,h3,h4,h5,h6⟩:=hI
  have hl:=Dr List.length O
  simp only [AH] at hl
  have wa:i64.wrap (m-(h.length:Int))=(r.length:Int):=Bn (by omega) (by omega) (by omega)
  simp only [wa]
  by_cases e:h.length=g.length
  · rw [if_neg (by simp [e])]
    have:=Xf (N:=N) (L:=r) (U:=h) (M:=[]) (V:=g) (R:=t) (a:=r.length) (b:=m) (n:=h.length) rfl (by simp; omega) rfl e.symm (by omega) (by simp; omega)
    simp only [DA] at this
    rw [this,Option.bind_some,a_,O]
  · rw [if_pos (by simp; omega)]
    by_cases e2:g.length<h.length
    · rw [if_pos (by simp; omega)]
      have G:h=h.take g.length++h.drop g.length:=(Lw _ _).symm
      have:=Xf (N:=N) (L:=r) (U:=h.take g.length) (M:=h.drop g.length) (V:=g) (R:=t) (a:=r.length) (b:=m) (n:=g.length) rfl (by simp; omega) (by simp; omega) (by simp; omega) (by simp; omega) (by simp; omega)
      rw [xI r (h.take _),←G] at this
      rw [this,Option.bind_some,qj (by simp; omega),show i64.wrap ((h.length:Int)-g.length)=((h.drop g.length).length:Int) from Bn (by simp; omega) (by omega) (by simp; omega)]
      refine hr _ ⟨r++g,h.drop g.length,h.take g.length,t,by simp; omega,?_,by simp; omega,by simp; omega,by simp; omega,by simp; omega,by simp; omega⟩ (by simp; omega)
      rw [←O]
      conv=>rhs; rw [G]
      simp
    · rw [if_neg (by simp; omega)]
      have K:g=g.take (g.length-h.length)++g.drop (g.length-h.length):=(Lw _ _).symm
      have wb:i64.wrap (m+(g.length:Int))=m+g.length:=Bn rfl (by omega) (by omega)
      have wc:i64.wrap (m+(g.length:Int)-h.length)=m+g.length-h.length:=Bn rfl (by omega) (by omega)
      have:=Xf (N:=N) (L:=r) (U:=h) (M:=g.take (g.length-h.length)) (V:=g.drop (g.length-h.length)) (R:=t) (a:=r.length) (b:=m+g.length-h.length) (n:=h.length) rfl (by simp; omega) rfl (by simp; omega) (by omega) (by simp; omega)
      rw [xI (r++h) (g.take _),←K] at this
      simp only [wb,wc]
      rw [this,Option.bind_some,qj (by simp; omega),show i64.wrap ((g.length:Int)-h.length)=((g.take (g.length-h.length)).length:Int) from Bn (by simp; omega) (by omega) (by simp; omega)]
      refine hr _ ⟨r,g.drop (g.length-h.length),g.take (g.length-h.length),h++t,by simp; omega,?_,by simp; omega,by simp; omega,by simp; omega,by simp; omega,by simp; omega⟩ (by simp; omega)
      rw [←O]
      conv=>rhs; rw [K]
      simp
end Go.Plain
end
section
namespace Go.Plain
open Go.Abs
def Cw(p:List K3)(u v:Int):Prop:=¬SH (Sv p v) (Sv p u)
def yP(p:List K3)(l:List Int):Prop:=l.Pairwise (Cw p)
theorem Cw.trans{p:List K3}{a b c:Int}(h:Cw p a b)(i:Cw p b c):Cw p a c:=by unfold Cw SH at *;omega
theorem Cw.refl{p:List K3}{a:Int}:Cw p a a:=by unfold Cw SH;omega
theorem SH.le{p:List K3}{a b:Int}(h:SH (Sv p a) (Sv p b)):Cw p a b:=by unfold Cw SH at *;omega
theorem Ru{p:List K3}{l:List Int}(h:yP p l){i j:Nat}(a:i<=j)(hj:j<l.length):Cw p (l.getD i 0) (l.getD j 0):=by
 rcases XX a with b | rfl
 ·have:=yAU.1 h i j (by omega) hj b;simpa[yAT,hj,show i<l.length by omega] using this
 ·exact .refl
theorem Eu{p:List K3}{l:List Int}(h:yP p l){t:Nat}(f:t<=l.length){y:Int}(a:t=0∨Cw p (l.getD (t-1) 0) y):∀u∈l.take t,Cw p u y:=λu b=>by
 obtain ⟨i,d,rfl⟩:=iX b;simp only[BY] at d;rcases a with rfl | a
 ·omega
 ·have:=Ru h (i:=i) (j:=t-1) (by omega) (by omega);rw[Po];have e:l.getD i 0=l[i]'(by omega):=by simp[yAT,show i<l.length by omega]
  rw[<-e];exact this.trans a
theorem DP{p:List K3}{l:List Int}(h:yP p l){t:Nat}{y:Int}(a:l.length<=t∨Cw p y (l.getD t 0)):∀u∈l.drop t,Cw p y u:=λu b=>by
 obtain ⟨i,d,rfl⟩:=iX b;simp only[yBN] at d;rcases a with a | a
 ·omega
 ·have:=Ru h (i:=t) (j:=t+i) (by omega) (by omega);rw[yBW];have e:l.getD (t+i) 0=l[t+i]'(by omega):=by simp[yAT,show t+i<l.length by omega]
  rw[<-e];exact a.trans this
theorem yP.MA{p:List K3}{l:List Int}(h:yP p l)(t:Nat):yP p (l.take t):=List.Pairwise.sublist (List.take_sublist _ _) h
theorem yP.Mj{p:List K3}{l:List Int}(h:yP p l)(t:Nat):yP p (l.drop t):=List.Pairwise.sublist (List.drop_sublist _ _) h
theorem RL{p:List K3}{l:List Int}(h:yP p l){t:Nat}(f:t<=l.length){y:Int}(g:t=0∨Cw p (l.getD (t-1) 0) y)(i:l.length<=t∨Cw p y (l.getD t 0)):yP p (l.take t++y::l.drop t):=by
 have a:=Eu h f g;have b:=DP h i;refine OO.2 ⟨h.MA t,yBm.2 ⟨b,h.Mj t⟩,λu e v d=>?_⟩;rcases gq.1 d with rfl | d
 ·exact a u e
 ·exact (a u e).trans (b v d)
theorem j_{L B R:List Int}{t k:Nat}(hk:k=L.length+t)(a:t<B.length):(L++B++R).getD k 0=B.getD t 0:=by subst hk;simp only[yAT];rw[xI,OG (by omega),HA (by omega),yBA]
theorem Jn{l:List Int}{k:Nat}{i:Int}(h:i=(k:Int))(hk:k<l.length):aB l i=some (l.getD k 0):=by subst h;rw[bZ hk];simp[yAT,hk]
theorem DB{p:List K3}{l:List Int}(h:∀x∈l,Rw p x){k:Nat}(hk:k<l.length):Rw p (l.getD k 0):=by
 have:l.getD k 0=l[k]:=by simp[yAT,hk]
 rw[this];exact h _ (bG hk)
theorem EM{X R:Type}{K:X->Option R}{J:(X->Option R)->Option R}{Q:R->Prop}(MZ:X->Prop)(a:∀k,(∀x,MZ x->bQ (k x) Q)->bQ (J k) Q)(b:∀x,MZ x->bQ (K x) Q):bQ (jn K J) Q:=a K b
set_option maxHeartbeats 4000000 in
theorem LV{p:List K3}:∀(N:Nat)(P A B S:List Int)(a m b:Int),A≠[]->B≠[]->(P++A++B++S).length<=1000->(∀x∈P++A++B++S,Rw p x)->A.length+B.length+1100<=N ->
  a=P.length->m=P.length+A.length->b=P.length+A.length+B.length ->
  bQ (za8 N (P++A++B++S) a m b p) λr=>∃C,r=P++C++S/\C.Perm (A++B)/\(yP p A->yP p B->yP p C):=by
 intro N;induction N with
 |zero=>intro P A B S a m b _ _ _ _ h;omega
 |succ N ih=>
  intro P A B S a m b hA hB hl M hN ha hm hb;have a1:0<A.length:=Wg.2 hA;have a2:0<B.length:=Wg.2 hB;have ak:=hl;simp only[AH] at ak;show bQ (if (i64.wrap (m-a) == 1)=true then _ else _) _;rw[bz];have w1:i64.wrap (m-a)=A.length:=Bn (by omega) (by omega) (by omega);have w2:i64.wrap (b-m)=B.length:=Bn (by omega) (by omega) (by omega);rw[w1];refine ⟨λU=>?_,λU=>?_⟩
  ·
   obtain ⟨y,rfl⟩:∃y,A=[y]:=by
    match A,U with
    |[y],_=>exact ⟨y,rfl⟩
    |[],U=>simp at U
    |_::_::_,U=>simp at U;omega
   have hy:aB (P++[y]++B++S) a=some y:=by rw[show P++[y]++B++S=P++y::(B++S) by simp];exact dW ha
   have an:Rw p y:=M y (by simp);simp only[List.length_cons,List.length_nil] at hm hb ak hN;obtain ⟨z,rfl⟩:∃z:Nat,m=z:=⟨P.length+1,by omega⟩;obtain ⟨Q,rfl⟩:∃Q:Nat,b=Q:=⟨P.length+1+B.length,by omega⟩;refine YM (λh=>SH (Sv p ((P++[y]++B++S).getD h 0)) (Sv p y)) (by omega) (by omega) (λf s r W X o hg hn=>?_) (λf s W X o E=>?_)
   ·have O:(s+r) / 2<(P++[y]++B++S).length:=by simp;omega
    simp only;rw[if_pos (by simp;omega),mid (by omega),Jn rfl O,aD,hy,aD,Bn (x:=(((s+r) / 2:Nat):Int)+1) rfl (by omega) (by omega)];refine (Dl (by omega) (DB M O) an).bind λr T=>?_;rw[bz];exact ⟨λh=>hg (T.1 (by simpa using h)),λh=>hn λg=>h (by simpa using T.2 g)⟩
   ·simp only;rw[if_neg (by simp)];have ht:s-z<=B.length:=by omega
    have ax:B=B.take (s-z)++B.drop (s-z):=(Lw _ _).symm;have e:P++[y]++B++S=P++y::B.take (s-z)++(B.drop (s-z)++S):=by simp only[xI,List.cons_append,List.nil_append];rw[<-xI (List.take _ _) (List.drop _ _) S,Lw]
    rw[Bn (x:=(s:Int)-1) (y:=(P.length:Int)+(B.take (s-z)).length) (by simp;omega) (by omega) (by simp;omega)]
    conv in (P++[y]++B++S)=>rw[e]
    rw[up_ok ha rfl (by simp;omega) (by simp;omega),a_];refine ⟨B.take (s-z)++y::B.drop (s-z),by simp,?_,λ_ hb=>RL hb ht ?_ ?_⟩
    ·conv=>rhs;rw[ax]
     exact List.perm_middle
    ·rcases o with o | o
     ·left;omega
     ·by_cases Y:s-z=0
      ·exact .inl Y
      ·right;rw[j_ (L:=P++[y]) (B:=B) (R:=S) (t:=s-z-1) (by simp;omega) (by omega)] at o;exact o.le
    ·rcases E with E | E
     ·left;omega
     ·by_cases Y:B.length<=s-z
      ·exact .inl Y
      ·right;rw[j_ (L:=P++[y]) (B:=B) (R:=S) (t:=s-z) (by simp;omega) (by omega)] at E;exact E
  ·rw[bz,w2];refine ⟨λh2=>?_,λh2=>?_⟩
   ·
    obtain ⟨y,rfl⟩:∃y,B=[y]:=by
     match B,h2 with
     |[y],_=>exact ⟨y,rfl⟩
     |[],U=>simp at U
     |_::_::_,U=>simp at U;omega
    have hy:aB (P++A++[y]++S) m=some y:=by rw[show P++A++[y]++S=(P++A)++y::S by simp];exact dW (by simp;omega)
    have an:Rw p y:=M y (by simp);simp only[List.length_cons,List.length_nil] at hm hb ak hN;obtain ⟨K,rfl⟩:∃K:Nat,a=K:=⟨P.length,by omega⟩;obtain ⟨z,rfl⟩:∃z:Nat,m=z:=⟨P.length+A.length,by omega⟩;refine YM (λh=>¬SH (Sv p y) (Sv p ((P++A++[y]++S).getD h 0))) (by omega) (by omega) (λf s r W X o hg hn=>?_) (λf s W X o E=>?_)
    ·have O:(s+r) / 2<(P++A++[y]++S).length:=by simp;omega
     simp only;rw[if_pos (by simp;omega),mid (by omega),hy,aD,Jn rfl O,aD,Bn (x:=(((s+r) / 2:Nat):Int)+1) rfl (by omega) (by omega)];refine (Dl (by omega) an (DB M O)).bind λr T=>?_;rw[bz];refine ⟨λh=>hg λg=>?_,λh=>hn λg=>?_⟩
     ·have:=T.2 g;simp at h;omega
     ·simp at h;exact g (T.1 h)
    ·simp only;rw[if_neg (by simp)];have ht:s-K<=A.length:=by omega
     have av:A=A.take (s-K)++A.drop (s-K):=(Lw _ _).symm;have e:P++A++[y]++S=(P++A.take (s-K))++A.drop (s-K)++y::S:=by
      conv=>lhs;rw[av]
      simp
     conv in (P++A++[y]++S)=>rw[e]
     rw[dn_ok (by simp;omega) (by simp;omega) (by simp;omega) (by simp;omega),a_];refine ⟨A.take (s-K)++y::A.drop (s-K),by simp,?_,λhb _=>RL hb ht ?_ ?_⟩
     ·conv=>rhs;rw[av]
      simp only[xI];exact yBu _ (yBv (l₁:=[y]))
     ·rcases o with o | o
      ·left;omega
      ·by_cases Y:s-K=0
       ·exact .inl Y
       ·right;rw[show P++A++[y]++S=P++A++([y]++S) by simp,j_ (L:=P) (B:=A) (t:=s-K-1) (by omega) (by omega)] at o;exact o
     ·rcases E with E | E
      ·left;omega
      ·by_cases Y:A.length<=s-K
       ·exact .inl Y
       ·right;rw[show P++A++[y]++S=P++A++([y]++S) by simp,j_ (L:=P) (B:=A) (t:=s-K) (by omega) (by omega)] at E;exact (Classical.not_not.1 E).le
   ·
    have av:2<=A.length:=by
     rcases sO A.length 2 with h | h
     ·exact absurd (show ((A.length:Int) == 1)=true by simp;omega) U
     ·exact h
    have ax:2<=B.length:=by
     rcases sO B.length 2 with h | h
     ·exact absurd (show ((B.length:Int) == 1)=true by simp;omega) h2
     ·exact h
    obtain ⟨K,rfl⟩:∃K:Nat,a=K:=⟨P.length,by omega⟩;obtain ⟨z,rfl⟩:∃z:Nat,m=z:=⟨P.length+A.length,by omega⟩;obtain ⟨Q,rfl⟩:∃Q:Nat,b=Q:=⟨P.length+A.length+B.length,by omega⟩;have ab:=mid (i:=K) (j:=Q) (by omega);obtain ⟨G,a0⟩:∃G,G=(K+Q) / 2:=⟨_,rfl⟩;rw[<-a0] at ab;simp only[ab];have wn:i64.wrap ((G:Int)+(z:Int))=((G+z:Nat):Int):=Bn (by simp) (by omega) (by omega);simp only[wn];have a5:(P++A++B++S).length=P.length+A.length+B.length+S.length:=by simp;omega
    refine EM (λx=>∃lo hi:Nat,x=((lo:Int),(hi:Int))/\lo<=hi/\hi<=G/\hi<=z/\K<=lo/\G+z<=Q+lo/\(lo=K∨G+z=Q+lo)/\(hi=z∨hi=G)) (λk hk=>?_) ?_
    ·rw[bz];refine ⟨λh=>hk _ ⟨G+z-Q,G,?_,?_⟩,λh=>hk _ ⟨K,z,rfl,?_⟩⟩
     ·rw[Bn (x:=((G+z:Nat):Int)-(Q:Int)) (y:=((G+z-Q:Nat):Int)) (by simp at h;omega) (by omega) (by omega)]
     ·simp at h;omega
     ·simp at h;omega
    ·rintro _ ⟨lo,hi,rfl,q1,q2,q3,q4,q5,q6,q7⟩;refine YM (λc=>¬SH (Sv p ((P++A++B++S).getD (G+z-1-c) 0)) (Sv p ((P++A++B++S).getD c 0))) q1 (by omega) (λf s r W X o hg hn=>?_) (λf s W X o E=>?_)
     ·have O:(s+r) / 2<(P++A++B++S).length:=by omega
      have ad:G+z-1-(s+r) / 2<(P++A++B++S).length:=by omega
      have wp:i64.wrap (((G+z:Nat):Int)-1)=((G+z-1:Nat):Int):=Bn (by omega) (by omega) (by omega);simp only;rw[if_pos (by simp;omega),mid (by omega),wp,Bn (x:=((G+z-1:Nat):Int)-(((s+r) / 2:Nat):Int)) (y:=((G+z-1-(s+r) / 2:Nat):Int)) (by omega) (by omega) (by omega),Jn rfl ad,aD,Jn rfl O,aD,Bn (x:=(((s+r) / 2:Nat):Int)+1) rfl (by omega) (by omega)];refine (Dl (by omega) (DB M ad) (DB M O)).bind λr T=>?_;rw[bz];refine ⟨λh=>hg λg=>?_,λh=>hn λg=>?_⟩
      ·have:=T.2 g;simp at h;omega
      ·simp at h;exact g (T.1 h)
     ·simp only;rw[if_neg (by simp)];have we:i64.wrap (((G+z:Nat):Int)-(s:Int))=((G+z-s:Nat):Int):=Bn (by omega) (by omega) (by omega);simp only[we];obtain ⟨d,a6⟩:∃d,d=s-K:=⟨_,rfl⟩;obtain ⟨n,a7⟩:∃n,n=G-s:=⟨_,rfl⟩;have la:d<=A.length:=by omega
      have lb:n<=B.length:=by omega
      have eA:A=A.take d++A.drop d:=(Lw _ _).symm;have eB:B=B.take n++B.drop n:=(Lw _ _).symm;have a8:(A.take d).length=d:=by simp;omega
      have a9:(A.drop d).length=A.length-d:=by simp
      have bb:(B.take n).length=n:=by simp;omega
      have bc:(B.drop n).length=B.length-n:=by simp
      have f1:d=0∨B.length<=n∨Cw p (A.getD (d-1) 0) (B.getD n 0):=by
       by_cases Y:d=0
       ·exact .inl Y
       by_cases Z:B.length<=n
       ·exact .inr (.inl Z)
       rcases o with o | o
       ·omega
       rw[j_ (L:=P++A) (B:=B) (R:=S) (t:=n) (by simp;omega) (by omega),show P++A++B++S=P++A++(B++S) by simp,j_ (L:=P) (B:=A) (t:=d-1) (by omega) (by omega)] at o;exact .inr (.inr o)
      have f2:n=0∨A.length<=d∨Cw p (B.getD (n-1) 0) (A.getD d 0):=by
       by_cases Y:n=0
       ·exact .inl Y
       by_cases Z:A.length<=d
       ·exact .inr (.inl Z)
       rcases E with E | E
       ·omega
       rw[j_ (L:=P++A) (B:=B) (R:=S) (t:=n-1) (by simp;omega) (by omega),show P++A++B++S=P++A++(B++S) by simp,j_ (L:=P) (B:=A) (t:=d) (by omega) (by omega)] at E;exact .inr (.inr (Classical.not_not.1 E).le)
      refine EM (λx=>x=P++A.take d++B.take n++A.drop d++B.drop n++S) (λk hk=>?_) ?_
      ·rw[bz];refine ⟨λh=>?_,λh=>hk _ ?_⟩
       ·simp only[bN,bA] at h;have e:P++A++B++S=(P++A.take d)++A.drop d++B.take n++(B.drop n++S):=by
         simp only[xI];rw[<-xI (B.take n) (B.drop n) S,Lw,<-xI (A.take d) (A.drop d),Lw]
        conv in (P++A++B++S)=>rw[e]
        rw[rot_ok (by simp;omega) (by rw[Bn rfl (by omega) (by omega)];omega) (by rw[Bn rfl (by omega) (by omega)];omega) (by omega) (by omega) (by omega) (by simp;omega),aD,qj (by rw[e];simp;omega)];exact hk _ (by simp)
       ·simp only[bN,bA,yBI] at h;rcases h with h | h
        ·have:A.drop d=[]:=by rw[<-yAX];omega
         have e2:A.take d=A:=by rw[this] at eA;simpa using eA.symm
         rw[this,e2]
         conv=>lhs;rw[eB]
         simp
        ·have:B.take n=[]:=by rw[<-yAX];omega
         have e2:B.drop n=B:=by rw[this] at eB;simpa using eB.symm
         rw[this,e2]
         conv=>lhs;rw[eA]
         simp
      ·rintro _ rfl;refine EM (λx=>∃C1,x=P++C1++A.drop d++B.drop n++S/\C1.Perm (A.take d++B.take n)/\(yP p (A.take d)->yP p (B.take n)->yP p C1)) (λk hk=>?_) ?_
       ·rw[bz];refine ⟨λh=>?_,λh=>hk _ ⟨A.take d++B.take n,by simp,.refl _,λZ h4=>?_⟩⟩
        ·simp only[bN,bA] at h;have e:P++A.take d++B.take n++A.drop d++B.drop n++S=P++A.take d++B.take n++(A.drop d++B.drop n++S):=by simp
         have r:=ih P (A.take d) (B.take n) (A.drop d++B.drop n++S) K s G (by rw[<-Wg];omega) (by rw[<-Wg];omega) (by rw[<-e];simp;omega) (λx hx=>M x (by
          rw[<-e] at hx;simp only[gp] at hx ⊢;rcases hx with ((((h | h) | h) | h) | h) | h
          ·exact .inl (.inl (.inl h))
          ·exact .inl (.inl (.inr (OH h)))
          ·exact .inl (.inr (OH h))
          ·exact .inl (.inl (.inr (yBb h)))
          ·exact .inl (.inr (yBb h))
          ·exact .inr h)) (by omega) ha (by omega) (by omega)
         rw[<-e] at r;refine r.bind λr T=>?_;obtain ⟨C,rfl,Z,h4⟩:=T;have h5:=Z.length_eq;simp only[AH] at h5;rw[qj (by simp;omega)];exact hk _ ⟨C,by simp,Z,h4⟩
        ·simp only[bN,bA,yBI] at h;rcases h with h | h
         ·have:A.take d=[]:=by rw[<-yAX];omega
          rw[this];exact h4
         ·have:B.take n=[]:=by rw[<-yAX];omega
          rw[this,DA];exact Z
       ·rintro _ ⟨C1,rfl,g1,g2⟩;have lC:=g1.length_eq;simp only[AH] at lC;have aa:∀C2:List Int,C2.Perm (A.drop d++B.drop n)->yP p A->yP p B->∀u∈C1,∀v∈C2,Cw p u v:=λC2 g3 sA sB u hu v M=>by
         have hu:=gp.1 (g1.mem_iff.1 hu);have M:=gp.1 (g3.mem_iff.1 M);rcases hu with hu | hu <;> rcases M with M | M
         ·have:=OO.1 (eA▸sA:yP p (A.take d++A.drop d));exact this.2.2 u hu v M
         ·rcases f1 with f1 | f1 | f1
          ·subst f1;simp at hu
          ·rw[yBo f1] at M;simp at M
          ·exact DP sB (.inr (Eu sA la (.inr f1) u hu)) v M
         ·rcases f2 with f2 | f2 | f2
          ·rw[f2] at hu;simp at hu
          ·rw[yBo f2] at M;simp at M
          ·exact DP sA (.inr (Eu sB lb (.inr f2) u hu)) v M
         ·have:=OO.1 (eB▸sB:yP p (B.take n++B.drop n));exact this.2.2 u hu v M
        have af:∀C2:List Int,C2.Perm (A.drop d++B.drop n)->(C1++C2).Perm (A++B):=λC2 g3=>by
         refine (List.Perm.append g1 g3).trans ?_
         conv=>rhs;rw[eA,eB]
         simp only[xI];refine yBu _ ?_;rw[<-xI,<-xI (A.drop d)];exact List.Perm.append_right _ yBv
        rw[bz];refine ⟨λh=>?_,λh=>a_.2 ⟨C1++(A.drop d++B.drop n),by simp,af _ (.refl _),λsA sB=>?_⟩⟩
        ·simp only[bN,bA] at h;have e:P++C1++A.drop d++B.drop n++S=(P++C1)++A.drop d++B.drop n++S:=rfl;have r:=ih (P++C1) (A.drop d) (B.drop n) S G ((G+z-s:Nat):Int) Q (by rw[<-Wg];omega) (by rw[<-Wg];omega) (by simp;omega) (λx hx=>M x (by
          simp only[gp] at hx ⊢;rcases hx with (((h | h) | h) | h) | h
          ·exact .inl (.inl (.inl h))
          ·rcases gp.1 (g1.mem_iff.1 h) with h | h
           ·exact .inl (.inl (.inr (OH h)))
           ·exact .inl (.inr (OH h))
          ·exact .inl (.inl (.inr (yBb h)))
          ·exact .inl (.inr (yBb h))
          ·exact .inr h)) (by omega) (by simp;omega) (by simp;omega) (by simp;omega)
         refine r.bind λr T=>?_;obtain ⟨C2,rfl,Z,h4⟩:=T;refine a_.2 ⟨C1++C2,by simp,af _ Z,λsA sB=>?_⟩;exact OO.2 ⟨g2 (sA.MA _) (sB.MA _),h4 (sA.Mj _) (sB.Mj _),aa _ Z sA sB⟩
        ·refine OO.2 ⟨g2 (sA.MA _) (sB.MA _),?_,aa _ (.refl _) sA sB⟩;simp only[bN,bA,yBI] at h;rcases h with h | h
         ·have:A.drop d=[]:=by rw[<-yAX];omega
          rw[this];exact sB.Mj _
         ·have:B.drop n=[]:=by rw[<-yAX];omega
          rw[this,DA];exact sA.Mj _
end Go.Plain
end
section
namespace Go.Plain
open Go.Abs
theorem rZ{X R:Type}{b:(X->Option R)->X->Option R}{Q:R->Prop}{n:Nat}{x:X}(hn:0<n)(h:∀f,f=bC b (n-1)->bQ (b f x) Q):bQ (bC b n x) Q:=by obtain ⟨k,rfl⟩:∃k,n=k+1:=⟨n-1,by omega⟩;exact h _ rfl
theorem Qg{p:List K3}{N:Nat}{P A S:List Int}{a E:Int}(ha:a=P.length)(hE:E=P.length+A.length)(hN:1100<=N)(hl:(P++A++S).length<=1000)(O:∀x∈P++A++S,Rw p x) :
  bQ (bC (λf8 (Q : Int × List Int)=>
         if (decide (Q.1<E))=true then
          bC (λad (d:Int×List Int)=>
           jn (λ(af:Bool)=>
            if af=true then
             (aB d.2 (i64.wrap (d.1-1))).bind λR=>
             (aB d.2 d.1).bind λak=>
             (aB d.2 d.1).bind λa6=>
             (aB (d.2.set d.1.toNat R) (i64.wrap (d.1-1))).bind λa7=>
             ad ((i64.wrap (d.1-1)),((d.2.set d.1.toNat R).set (i64.wrap (d.1-1)).toNat ak))
            else
             f8 ((i64.wrap (Q.1+1)),d.2)) λW=>
           if (decide (d.1 > a))=true then
           (aB d.2 d.1).bind λan=>
           (aB d.2 (i64.wrap (d.1-1))).bind λav=>
           (
            (aB p an).bind λt=>
            (aB p av).bind λG=>
            (zaz N ([t.1,t.2.1,t.2.2]:List Int) ([G.1,G.2.1,G.2.2]:List Int)).bind λax=>
            some ax).bind λa0=>
           W (decide (a0<0))
           else
           W false) N (Q.1,Q.2)
         else
          some Q.2) N ((i64.wrap (a+1)),P++A++S)) λr=>∃C,r=P++C++S/\C.Perm A/\yP p C:=by
 have a1:=hl;simp only[AH] at a1;rw[Bn (x:=a+1) (y:=a+1) rfl (by omega) (by omega)];refine lpM (I:=λx=>∃C T,x.2=P++C++T++S/\(C++T).Perm A/\yP p C/\x.1=a+(if A=[] then 1 else (C.length:Int))/\(A≠[]->0<C.length)) (m:=λx=>(E+1-x.1).toNat) (λx f hI hr=>?_) ?_ (by simp;omega)
 ·obtain ⟨i,row⟩:=x;obtain ⟨C,T,rfl,hp,hs,hi,h0⟩:=hI;simp only at hi hr ⊢;have n:=hp.length_eq;simp only[AH] at n;by_cases hA:A=[]
  ·subst hA;simp only[if_true,List.length_nil] at hi n hE;rw[if_neg (by simp;omega),a_];have hC:C=[]:=by rw[<-yAX];omega
   have hT:T=[]:=by rw[<-yAX];omega
   subst hC hT;exact ⟨[],by simp,.refl _,hs⟩
  ·rw[if_neg hA] at hi;have a8:=h0 hA;cases T with
   |nil=>simp only[List.length_nil] at n;rw[if_neg (by simp;omega),a_];exact ⟨C,by simp,by simpa using hp,hs⟩
   |cons y T=>
    simp only[List.length_cons] at n;rw[if_pos (by simp;omega)];refine lpM (I:=λz=>∃U V,z=(a+(U.length:Int),P++U++y::(V++T++S))/\U++V=C/\∀v∈V,Cw p y v) (m:=λz=>(z.1-a).toNat) (λz g hz a2=>?_) ⟨C,[],by rw[hi];simp,by simp,by simp⟩ (by simp;omega);obtain ⟨U,V,rfl,e,X⟩:=hz;have K:=Dr List.length e;simp only[AH] at K;have M:∀x∈P++U++y::(V++T++S),Rw p x:=λx Y=>O x (by
     simp only[gp,gq] at Y ⊢;have o:x∈U∨x∈V∨x=y∨x∈T->x∈A:=λh=>hp.mem_iff.1 (by
      rw[<-e];simp only[gp,gq];rcases h with h | h | h | h
      ·exact .inl (.inl h)
      ·exact .inl (.inr h)
      ·exact .inr (.inl h)
      ·exact .inr (.inr h))
     rcases Y with (h | h) | h | (h | h) | h
     ·exact .inl (.inl h)
     ·exact .inl (.inr (o (.inl h)))
     ·exact .inl (.inr (o (.inr (.inr (.inl h)))))
     ·exact .inl (.inr (o (.inr (.inl h))))
     ·exact .inl (.inr (o (.inr (.inr (.inr h)))))
     ·exact .inr h)
    have done:(∀u∈U,Cw p u y)->bQ (f (i64.wrap (i+1),P++U++y::(V++T++S))) (λr=>∃C,r=P++C++S/\C.Perm A/\yP p C):=λhu=>by
     rw[Bn (x:=i+1) rfl (by omega) (by omega)];refine hr _ ⟨U++y::V,T,by simp,?_,?_,?_,λ_=>by simp;omega⟩ (by simp;omega)
     ·refine List.Perm.trans ?_ hp;rw[<-e];have:(U++y::V).Perm (U++V++[y]):=by
       rw[xI];exact yBu _ (yBv (l₁:=[y]))
      have:=this.append_right T;simpa using this
     ·have Z:=OO.1 (e▸hs:yP p (U++V));refine OO.2 ⟨Z.1,yBm.2 ⟨X,Z.2.1⟩,λu h v O=>?_⟩;rcases gq.1 O with rfl | O
      ·exact hu u h
      ·exact Z.2.2 u h v O
     ·rw[if_neg hA];simp;omega
    refine EM (λx=>(x=true->∃b v,U=b++[v]/\Cw p y v)/\(x=false->∀u∈U,Cw p u y)) (λk hk=>?_) (λx Y=>?_)
    ·rw[bz];refine ⟨λh=>?_,λh=>hk _ ⟨by simp,λ_ u hu=>?_⟩⟩
     ·simp at h;rcases List.eq_nil_or_concat U with rfl | ⟨b,v,rfl⟩
      ·simp at h
      simp only[yBV] at M hk h ⊢;simp only[yBV,AH,List.length_cons,List.length_nil] at K;have w:i64.wrap (a+((b++[v]).length:Nat)-1)=((P++b).length:Nat):=Bn (by simp;omega) (by simp;omega) (by simp;omega);have e1:P++(b++[v])++y::(V++T++S)=(P++b)++v::(y::(V++T++S)):=by simp
      rw[w,dW (by simp;omega),aD,show aB (P++(b++[v])++y::(V++T++S)) ((P++b).length:Nat)=some v from by rw[e1];exact dW rfl,aD];refine (Dl (by omega) (M y (by simp)) (M v (by simp))).bind λr aa=>hk _ ⟨λh=>⟨b,v,rfl,(aa.1 (by simpa using h)).le⟩,λh u hu=>?_⟩;have ab:Cw p v y:=λg=>by have:=aa.2 g;simp at h;omega
      simp only[yBV] at e;have Z:=OO.1 (e▸hs:yP p ((b++[v])++V));have h2:=OO.1 Z.1;rcases gp.1 hu with hu | hu
      ·exact (h2.2.2 u hu v (by simp)).trans ab
      ·simp at hu;subst hu;exact ab
     ·simp at h;have:U=[]:=by rw[<-yAX];omega
      subst this;simp at hu
    ·rw[bz];refine ⟨λh=>?_,λh=>done (Y.2 (by simpa using h))⟩;obtain ⟨b,v,rfl,a5⟩:=Y.1 h;simp only[AH,List.length_cons,List.length_nil] at K;have w:i64.wrap (a+((b++[v]).length:Nat)-1)=((P++b).length:Nat):=Bn (by simp;omega) (by simp;omega) (by simp;omega);have e1:P++(b++[v])++y::(V++T++S)=(P++b)++v::(y::(V++T++S)):=by simp
     have e3:P++(b++[v])++v::(V++T++S)=(P++b)++v::(v::(V++T++S)):=by simp
     simp only;rw[w,show aB (P++(b++[v])++y::(V++T++S)) ((P++b).length:Nat)=some v from by rw[e1];exact dW rfl,aD,dW (by simp;omega),aD,aD,jL (by simp;omega),e3,dW (by simp),aD,jL (by simp)];refine a2 _ ⟨b,v::V,by simp;omega,by rw[<-e];simp,λu hu=>?_⟩ (by simp;omega);rcases gq.1 hu with rfl | hu
     ·exact a5
     ·exact X u hu
 ·refine ⟨A.take 1,A.drop 1,by simp only[xI];rw[<-xI (A.take 1),Lw],by rw[Lw],?_,?_,?_⟩
  ·cases A with
   |nil=>exact .nil
   |cons=>simp[yP]
  ·cases A <;> simp
  ·intro (h:A≠[]);have:=Wg.2 h;simp;omega
def VH(n:Nat):List Int:=(List.range n).map λ(i:Nat)=>(i:Int)
theorem sn(n:Nat):(VH n).length=n:=by simp[VH]
theorem upn_get{n i:Nat}(h:i<n):(VH n)[i]'(by rw[sn];exact h)=(i:Int):=by simp[VH]
theorem SN{p:List K3}{x:Int}(h:x∈VH p.length):Rw p x:=by simp only[VH,gD,yBP] at h;obtain ⟨i,a,rfl⟩:=h;exact ⟨by omega,by omega⟩
theorem Sk{α:Type}{z:α}{n:Nat}(h:n<=1000):Cs z (n:Int) (n:Int)=some (List.replicate n z):=by unfold Cs;simp;omega
theorem Ql{N:Nat}{p:List K3}(hp:p.length<40)(hN:2000<=N):bQ (zeR N p) λr=>r.Perm (VH p.length)/\yP p r:=by
 unfold zeR;rw[Sk (by omega),aD];refine iS p.length (λi x=>x=((i:Int),(VH p.length).take i++List.replicate (p.length-i) 0)) (λi x f X n b=>?_) (λx f n=>?_) (by simp) (by omega)
 ·subst n;have Y:((VH p.length).take i).length=i:=by simp[sn];omega
  have e:List.replicate (p.length-i) (0:Int)=0::List.replicate (p.length-(i+1)) 0:=by rw[show p.length-i=(p.length-(i+1))+1 by omega,List.replicate_succ]
  simp only;rw[if_pos (by simp;omega),e,dW (by rw[Y]),aD,jL (by rw[Y]),bU (by omega)];refine b _ (by rw[List.take_add_one,eS (by rw[sn];exact X),upn_get X];simp)
 ·subst n;rw[yBD (by rw[sn];exact cX _),yCl,List.replicate_zero,DA];simp only;rw[if_neg (by simp),sn];generalize n:VH p.length=x;have z:x.length=p.length:=by rw[<-n,sn]
  have d:∀a∈x,Rw p a:=λa g=>SN (by rw[n];exact g)
  suffices key:∀o:Option (List Int),(bQ o λr=>r.Perm x/\yP p r)->bQ ((o.bind λK=>some K).bind λu=>Ck p.length u.length<|some u) λr=>r.Perm x/\yP p r by
   refine key _ ?_;have M:i64.wrap (20+20)=40:=rfl;have O:i64.wrap (2 * 20)=40:=rfl;have Q:i64.wrap (20 * 2)=40:=rfl;have R:i64.wrap (0+20)=20:=rfl;by_cases aa:p.length<20
   ·refine rZ (by omega) λf y=>?_;simp only;rw[if_neg (by simp;omega)];have Z:=Qg (p:=p) (N:=N) (P:=[]) (A:=x) (S:=[]) (a:=0) (E:=p.length) rfl (by simp;omega) (by omega) (by simp;omega) (by simpa using d);rw[xAb,DA] at Z;refine Z.bind λr b=>?_;obtain ⟨C,rfl,h,t⟩:=b;rw[qj (by simpa using h.length_eq.symm)];refine rZ (by omega) λf y=>?_;rw[if_neg (by simp;omega),a_];exact ⟨by simpa using h,by simpa using t⟩
   ·refine rZ (by omega) λf y=>?_;simp only;have v:x=x.take 20++x.drop 20:=(Lw _ _).symm;have l1:(x.take 20).length=20:=by simp;omega
    have l2:(x.drop 20).length=p.length-20:=by simp;omega
    rw[if_pos (by simp;omega)];have r1:=Qg (p:=p) (N:=N) (P:=[]) (A:=x.take 20) (S:=x.drop 20) (a:=0) (E:=20) rfl (by rw[l1];simp) (by omega) (by simp;omega) (by simpa using d);rw[xAb,<-v] at r1;refine r1.bind λr b=>?_;obtain ⟨C,rfl,h,t⟩:=b;have T:C.length=20:=by rw[h.length_eq,l1]
    rw[xAb,qj (by simp;omega),M,y];refine rZ (by omega) λf y=>?_;simp only;rw[if_neg (by simp;omega)];have U:∀a∈C++x.drop 20,Rw p a:=λa g=>d a (by
     rcases gp.1 g with g | g
     ·exact OH (h.mem_iff.1 g)
     ·exact yBb g)
    have r2:=Qg (p:=p) (N:=N) (P:=C) (A:=x.drop 20) (S:=[]) (a:=20) (E:=p.length) (by rw[T];rfl) (by rw[T,l2];omega) (by omega) (by simp;omega) (by simpa using U);rw[DA] at r2;refine r2.bind λr b=>?_;obtain ⟨D,rfl,h3,h4⟩:=b;have lD:D.length=p.length-20:=by rw[h3.length_eq,l2]
    have m:(C++D).Perm x:=by rw[v];exact List.Perm.append h h3
    rw[DA,qj (by simp;omega)];refine rZ (by omega) λf2 W=>?_;simp only;by_cases ab:p.length=20
    ·rw[if_neg (by simp;omega),a_];have:D=[]:=by rw[<-yAX];omega
     subst this;exact ⟨m,by simpa using t⟩
    ·rw[if_pos (by simp;omega),O];refine rZ (by omega) λf3 ad=>?_;simp only;rw[if_neg (by simp;omega),R];refine EM (λr=>r.Perm x/\yP p r) (λk hk=>?_) (λr b=>?_)
     ·rw[if_pos (by simp;omega)];have r3:=LV (p:=p) N [] C D [] 0 20 p.length (by rw[<-Wg];omega) (by rw[<-Wg];omega) (by simp;omega) (λa g=>d a (m.mem_iff.1 (by simpa using g))) (by omega) rfl (by rw[T];rfl) (by simp;omega);rw[xAb,DA] at r3;refine r3.bind λr b=>?_;obtain ⟨G,rfl,h5,h6⟩:=b;have lG:=h5.length_eq;rw[qj (by simp at lG ⊢;omega)];exact hk _ ⟨by simpa using h5.trans m,by simpa using h6 t h4⟩
     ·rw[Q,W];refine rZ (by omega) λf4 af=>?_;simp only;rw[if_neg (by simp;omega),a_];exact b
  intro o ⟨r,ho,h,t⟩;rw[ho,aD,aD,qj (by rw[h.length_eq,z])];exact a_.2 ⟨h,t⟩
end Go.Plain
end
