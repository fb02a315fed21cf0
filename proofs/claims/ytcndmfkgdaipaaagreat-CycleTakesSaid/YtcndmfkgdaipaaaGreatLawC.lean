/- Lemmas. -/
import Derived.Test.YtcndmfkgdaipaaaGreatLawB
import Derived.Test.YtcndmfkgdaipaaaGreatLawA
set_option linter.all false
open Go.IntKind (i64 u64)
section
namespace Go.Plain
open Go.Abs
theorem ud{zs:List Int}{j:Nat}(h:j<zs.length):zs.toArray[j]! = zs[j]:=by simp_all
theorem MZ(zs:List Int)(x:Int):x∈Lib.compact zs↔x∈zs:=by
 unfold Lib.compact Lib.compactUpTo;constructor
 ·grind
 ·intro h;obtain ⟨j,hj,rfl⟩:=iW h;have:∀j (hj:j<zs.length),zs[j]∈((List.range zs.length).filter (Lib.keeps zs.toArray)).map (zs.toArray[·]!):=by
   intro j;induction j with
   |zero=>intro hj;exact iP.2 ⟨0,ND.2 ⟨yBZ.2 hj,by simp[Lib.keeps]⟩,ud hj⟩
   |succ j ih=>
    intro hj;by_cases e:zs[j+1]=zs[j]
    ·simp_all
    ·refine iP.2 ⟨j+1,ND.2 ⟨yBZ.2 hj,?_⟩,ud hj⟩;unfold Lib.keeps
     grind
  simp_all
theorem DI{zs:List Int}(h:zs.Pairwise λa b=>a<=b):(Lib.compact zs).Pairwise λa b=>a<=b:=by
 unfold Lib.compact Lib.compactUpTo;rw[List.pairwise_map]
 grind [ud,List.pairwise_iff_getElem]
theorem VG{R:Type}{a b:Nat}(h:a=b)(k:Option R):Bq a b k=k:=by grind [Go.Abs.Bq,Nat.beq_refl]
structure Wt (nodes:List (List bM)) (part:List Int) (T:List Int):Prop where
 bN:T.Pairwise λa b=>a<=b
 mem:∀x,x∈T↔∃n∈part,∃s∈(nodes[n.toNat]?).getD [],s.At=x
theorem Uy{l:List Int}(hl:l.length<=1000000){Q:List Int->Prop}(h:∀T,T.Pairwise (λa b=>a<=b)->(∀x,x∈T↔x∈l)->T.length<=l.length->Q T) :
  bR ((zcd 5000 l).bind λe=>Bq l.length e.length<|(zbM 5000 e).bind λf=>some f.2) Q:=by
 unfold zcd zbM Lr;rw[Abs.LO];have d:∀m:List Int,m.map (λk=>k)=m:=λm=>List.map_id' m;rw[if_pos hl,aw,d,d,VG (List.length_mergeSort l).symm];unfold LP;rw[if_pos (by simp_all),aw,bg,d,d];have g:∀a b c:Int,decide (a<=b)=true->decide (b<=c)=true->decide (a<=c)=true:=λa b c n o=>by grind
 have i:∀a b:Int,(decide (a<=b) || decide (b<=a))=true:=λa b=>by grind
 have hs:(l.mergeSort λx y=>decide (x<=y)).Pairwise λa b=>a<=b:=(List.pairwise_mergeSort g i l).imp λ{a b} h=>by simp_all
 refine h _ (DI hs) (λx=>?_) (by grind [Go.Abs.xX,List.length_mergeSort]);rw[MZ,(List.mergeSort_perm l _).mem_iff]
theorem FD{nodes:List (List bM)}{q:jt}{L:Nat}(hL:L<=200)(hq:pK q)(hp:PR nodes q L){w:AB}(hw:gL q w) :
  bR (zbq 5000 nodes w.Part q.S.aH) λT=>Wt nodes (cA q w) T/\T.length<=3200:=by
 have nn:=hq.spec.nodes.hi;obtain ⟨u,v⟩:=jZ hw;have r:=hq.spec.parts.ok _ v;have pl:(cA q w).length<=16:=by
  rcases vB r.2 with h | h
  ·omega
  simp_all
 have t:=hp.len;unfold zbq;rw[if_neg (by have:=hw.part;simp_all),u,aw];refine jj (cA q w).length (λi x=>x.1=(i:Int)/\x.2.length<=200 * i/\∀y,y∈x.2↔∃n∈(cA q w).take i,∃s∈(nodes[n.toNat]?).getD [],s.At=y) (λi x f hi a z=>?_) (λx f a=>?_) ⟨rfl,by simp,λy=>by simp⟩ (by omega)
 ·obtain ⟨y,T⟩:=x;obtain ⟨rfl,g,b⟩:=a;dsimp only at g b ⊢;have hn:=r.2.mem _ (bC hi);obtain ⟨k,A⟩:∃k:Nat,(cA q w)[i]=(k:Int):=⟨((cA q w)[i]).toNat,by omega⟩;have hk:k<nodes.length:=by omega
  obtain ⟨G,lk⟩:=hp.cK.each k hk;rw[if_pos (cR hi),bY hi,aw,A,bY hk,aw];refine jj nodes[k].length (λj x=>x.1=(j:Int)/\x.2.length=T.length+j/\∀y,y∈x.2↔y∈T\/∃s∈nodes[k].take j,s.At=y) (λj x E hj a m=>?_) (λx E a=>?_) ⟨rfl,rfl,λy=>by simp⟩ (by omega)
  ·obtain ⟨y,U⟩:=x;obtain ⟨rfl,o,d⟩:=a;dsimp only at o d ⊢;rw[if_pos (cR hj),bY hj,aw,Bi (by grind),aw,bU (show j<1000000 by omega)];refine m _ ⟨rfl,by grind,λy=>?_⟩;dsimp only;rw[ld,zK,d,or_assoc];refine or_congr_right ?_;constructor
   ·rintro (⟨s,e,p⟩ | h)
    ·grind
    ·exact ⟨_,(eC hj).2 (.inr rfl),h.symm⟩
   ·rintro ⟨s,e,p⟩;rcases (eC hj).1 e with e | e
    ·grind
    simp_all
  ·obtain ⟨y,U⟩:=x;obtain ⟨rfl,o,d⟩:=a;dsimp only at o d ⊢;rw[if_neg (by simp),bU (show i<1000000 by omega)];rw[xr] at d;refine z _ ⟨rfl,by grind,λy=>?_⟩;dsimp only;rw[d,b,Fk hi]
   simp_all
 ·obtain ⟨y,T⟩:=x;obtain ⟨rfl,g,b⟩:=a;dsimp only at g b ⊢;rw[if_neg (by simp)];rw[xr] at b;exact Uy (by omega) λU e p K=>⟨⟨e,λx=>(p x).trans (b x)⟩,by omega⟩
def cJ(q:jt)(w:AB)(t:Int):List dj×Bool:=(Vb 5000 q w t).getD ([],false)
structure vl (q:jt) (w:AB) (T:List Int) (r:fY×Bool):Prop where
 yes:r.2=true->r.1.At∈T/\(cJ q w r.1.At).2=true/\(∀s∈T,(cJ q w s).2=true->r.1.At<=s)/\r.1.aW=0/\r.1.ah=(cJ q w r.1.At).1
 no:r.2=false->(∀s∈T,(cJ q w s).2=false)/\r.1={ aW:=0,At:=0,ah:=[] }
section
variable{nodes:List (List bM)}{q:jt}{L:Nat}(hL:L<=200)(hq:pK q)(hp:PR nodes q L){w:AB}(hw:gL q w)
include hL hq hp hw
theorem AI{t:Int}(b:q.aX<=t):zaF 5000 nodes w.Part w.aL w.ay w.aO t q.aX q.S.aH=some (cJ q w t)/\Vb 5000 q w t=some (cJ q w t):=by
 by_cases d:t<=1099511627776
 ·obtain ⟨F,_,_,e,a⟩:=CB (by omega) hq hp hw b d;have:cJ q w t=BY F (cA q w) w.aL w.ay:=by grind [cJ]
  simp_all
 ·have a:Vb 5000 q w t=some ([],false):=by
   unfold Vb
   simp_all
  have:cJ q w t=([],false):=by grind [cJ]
  rw[this];refine ⟨?_,a⟩;unfold zaF
  simp_all
theorem Ue:bR (zaP 5000 q w) λr=>∃T,CO q T/\vl q w T r:=by
 unfold zaP;refine (Nr hq).bind λT a=>?_;have k:=a.len;refine wi T (λ_ t=>(cJ q w t).2=false) (λi f hi b d=>?_) (λf b=>?_) (by omega)
 ·have e:=(a.mem T[i]).1 (bC hi);rw[if_pos (cR hi),bY hi,aw,(AI hL hq hp hw e.1).2,aw,bx,bU (show i<1000000 by omega)];refine ⟨λh=>?_,λh=>d (by simp_all)⟩;rw[aw,bg];refine ⟨T,a,⟨λ_=>⟨bC hi,h,λs hs m=>?_,rfl,rfl⟩,λh=>by simp at h⟩⟩;obtain ⟨j,hj,rfl⟩:=iW hs;dsimp only;rcases Vo j i with g | g | g
  ·simp_all
  ·simp_all
  ·have:=yBh.1 a.bN i j hi hj g;omega
 ·rw[if_neg (by simp),bg];exact ⟨T,a,⟨λh=>by simp at h,λ_=>⟨CI (A:=λt=>(cJ q w t).2=false) b,rfl⟩⟩⟩
theorem Hi{T:List Int}(b:Wt nodes (cA q w) T):q.aX∈T/\∀x∈T,q.aX<=x:=by
 obtain ⟨i,g⟩:=jZ hw;have d:=hq.spec.parts.ok _ g;have e:=hp.len;constructor
 ·have f:0<(cA q w).length:=by omega
  have hn:=d.2.mem _ (bC f);have hk:((cA q w)[0]).toNat<nodes.length:=by omega
  obtain ⟨a,lk⟩:=hp.cK.each _ hk;refine (b.mem _).2 ⟨_,bC f,nodes[((cA q w)[0]).toNat][0]'a.ne,?_,hp.cK.first _ hk a.ne⟩
  simp_all
 ·intro x h;obtain ⟨n,hn,s,hs,rfl⟩:=(b.mem x).1 h;have nb:=d.2.mem n hn;have hk:n.toNat<nodes.length:=by omega
  obtain ⟨a,lk⟩:=hp.cK.each _ hk;rw[eK hk,Rm] at hs;obtain ⟨j,hj,rfl⟩:=iW hs;have:=hp.cK.first _ hk a.ne;have:=a.le (PF j) hj;omega
theorem OV:bR (zaK 5000 nodes w.Part w.aL w.ay w.aO q.aX q.S.aH) fun r=>∃T,Wt nodes (cA q w) T/\vl q w T r:=by
 unfold zaK
 refine (FD hL hq hp hw).bind fun T d=>?_
 obtain ⟨d,v⟩:=d
 have a:=(Hi hL hq hp hw d).2
 have fin:∀i (hi:i<T.length),(∀j (hj:j<T.length),j<i->(cJ q w T[j]).2=false)->(cJ q w T[i]).2=true->vl q w T ({ aW:=0,At:=T[i],ah:=(cJ q w T[i]).1 },true):=fun i hi e h=>
  ⟨fun _=>⟨bC hi,h,fun s hs m=>by
   obtain ⟨j,hj,rfl⟩:=iW hs
   dsimp only
   rcases Vo j i with g | g | g
   ·simp_all
   ·simp_all
   ·have:=yBh.1 d.bN i j hi hj g; omega,rfl,rfl⟩,fun h=>by simp at h⟩
 have none:(∀j (hj:j<T.length),(cJ q w T[j]).2=false)->vl q w T ({ aW:=0,At:=0,ah:=[] },false):=fun e=>
  ⟨fun h=>by simp at h,fun _=>⟨CI (A:=fun t=>(cJ q w t).2=false) e,rfl⟩⟩
 rw [bx]
 refine ⟨fun h=>?_,fun h=>?_⟩
 ·rw [bg]
  grind
 ·have n:0<T.length:=by grind
  have o:aE T 0=some T[0]:=bY n
  rw [o,aw,(AI hL hq hp hw (a _ (bC n))).1,aw,bx]
  refine ⟨fun p=>?_,fun p=>?_⟩
  ·grind [bg]
  ·refine jj (T.length-1) (fun i x=>x=(T,((i+1:Nat):Int))/\∀j (hj:j<T.length),j<i+1->(cJ q w T[j]).2=false) (fun i x f hi k y=>?_) (fun x f k=>?_) ⟨rfl,fun j hj u=>?_⟩ (by omega)
   ·obtain ⟨rfl,e⟩:=k
    have b:i+1<T.length:=by omega
    dsimp only
    rw [if_neg (by grind),bY b,aw,(AI hL hq hp hw (a _ (bC b))).1,aw,bx]
    refine ⟨fun m=>?_,fun m=>?_⟩
    ·grind [bg]
    ·rw [bU (show i+1<1000000 by omega)]
     grind
   ·obtain ⟨rfl,e⟩:=k
    dsimp only
    rw [if_pos (by grind),bg]
    grind
   simp_all
theorem Hz{t a:Int}(m:q.aX<=a)(h:a<=t)(o:∀n∈cA q w,∀u,a<=u->u<=t->bH q n u=bH q n t)(i:(cJ q w t).2=true):(cJ q w a).2=true:=by
 have Q:=hp.right;have p:=hq.now;have R:=hw.wall;have r:t<=1099511627776:=by
  rcases yC4 1099511627776 t with g | g
  ·exfalso;have T:Vb 5000 q w t=some ([],false):=by
    unfold Vb
    simp_all
   grind [cJ]
  omega
 obtain ⟨F,x,b,_,e⟩:=CB (by omega) hq hp hw (show q.aX<=t by omega) r;obtain ⟨G,y,d,_,U⟩:=CB (by omega) hq hp hw m (by omega);have w1:cJ q w t=BY F (cA q w) w.aL w.ay:=by grind [cJ]
 have w2:cJ q w a=BY G (cA q w) w.aL w.ay:=by grind [cJ]
 rw[w1] at i;rw[w2];obtain ⟨z,A⟩:=AP.1 i;refine AP.2 ⟨z,Int.le_trans A (Pv b d hw.need λn hn c=>?_)⟩;have nb:=b.node n hn;obtain ⟨E,_,K⟩:=yb (F:=F) nb.1 nb.2;obtain ⟨M,_,N⟩:=yb (F:=G) nb.1 (by grind [FZ.len]);have f:=x.low _ E;have k:=y.low _ M;rw[yCr nb.1] at f k;rw[K,N];obtain ⟨u,v,O,W,P,ev⟩:=k.cK c;rw[<-ev,P];by_cases g:u<t
 ·rw[o n hn u O (by omega)];exact f.le t _ (Pu _) (by omega) rfl c
 ·exact f.le u _ (by omega) (by omega) rfl c
theorem Zo{t:Int}(a:(cJ q w t).2=true):t<=1099511627776:=by
 rcases yC4 1099511627776 t with g | g
 ·exfalso;have b:Vb 5000 q w t=some ([],false):=by
   unfold Vb
   simp_all
  grind [cJ]
 omega
theorem Wx:∃r,zaK 5000 nodes w.Part w.aL w.ay w.aO q.aX q.S.aH=some r/\zaP 5000 q w=some r/\(∃T,CO q T/\vl q w T r):=by
 obtain ⟨r,e,T,N,Y⟩:=Ue hL hq hp hw;obtain ⟨Z,e',v,i,d⟩:=OV hL hq hp hw;obtain ⟨ep,hm⟩:=jZ hw;have kp:=hq.spec.parts.ok _ hm;have aa:=hp.len;have O:=Hi hL hq hp hw i;have f:∀t∈T,(cJ q w t).2=true->∃h∈v,h<=t/\(cJ q w h).2=true:=λt P Q=>by
  have A:=(N.mem t).1 P;obtain ⟨x,k,E,m,R⟩:=Aq v (a:=q.aX) A.1;have U:x∈v:=by grind
  refine ⟨x,U,m,Hz hL hq hp hw E m (λn hn u u1 u2=>?_) Q⟩;have nb:=kp.2.mem n hn;have hk:n.toNat<nodes.length:=by omega
  have v1:=hp.val n.toNat hk u (by omega);have v2:=hp.val n.toNat hk t A.1;rw[yCr nb.1] at v1 v2;obtain ⟨s,s1,s2,W,s4⟩:=v2;have sx:s.At<=x:=R _ ((i.mem _).2 ⟨n,hn,s,by simp_all,rfl⟩) s2;exact v1.Al (hp.cK.each _ hk).1 ⟨s,s1,by omega,λs' o G=>W s' o (by omega),s4⟩
 have g:∀t∈v,(cJ q w t).2=true->∃h∈T,h<=t/\(cJ q w h).2=true:=λt P Q=>by
  have A:=O.2 t P;obtain ⟨x,k,E,m,R⟩:=Aq T (a:=q.aX) A;have U:x∈T:=by
   rcases k with k | k
   ·rw[k];exact (N.mem _).2 ⟨Pu _,.inl rfl⟩
   omega
  refine ⟨x,U,m,Hz hL hq hp hw E m (λn hn u u1 u2=>?_) Q⟩;have c:∀y,x<=y->y<=t->bH q n y=bH q n x:=λy y1 y2=>Bu E y1 λz z1 z2 z3=>by have:=R z ((N.mem z).2 ⟨z1,z2⟩) (by omega);omega
  simp_all
 have:Z=r:=by
  obtain ⟨p,b⟩:=r;obtain ⟨X,b'⟩:=Z;cases b with
  |true=>
   obtain ⟨o,G,h3,h4,h5⟩:=Y.yes rfl;dsimp only at o G h3 h4 h5;obtain ⟨h,t1,t2,t3⟩:=f _ o G;cases b' with
   |true=>
    obtain ⟨K,M,g3,g4,g5⟩:=d.yes rfl;dsimp only at K M g3 g4 g5;obtain ⟨s',s1,s2,W⟩:=g _ K M;have:=g3 _ t1 t3;have:=h3 _ s1 W;have ea:X.At=p.At:=by omega
    have:X=p:=by
     obtain ⟨a1,a2,a3⟩:=p;obtain ⟨b1,b2,b3⟩:=X
     simp_all
    rw[this]
   |false=>
    have:=(d.no rfl).1 _ t1
    simp_all
  |false=>
   obtain ⟨o,G⟩:=Y.no rfl;cases b' with
   |true=>
    obtain ⟨K,M,_⟩:=d.yes rfl
    grind
   |false=>
    obtain ⟨K,M⟩:=d.no rfl
    simp_all
 grind
end
def eG(u:D_):ju:={ ay:=u.ay,ah:=u.ah,n_:=u.To }
structure VD (q:jt):Prop where
 ref:pK q
 lo:∀u∈q.L,u.bO=q.aX/\q.aX<u.To
 caps:∀(i k:Nat)(h:k<q.S.ai.length)(t:Int)(c:Nat),cmp c (bj (q.L.take i) k t)<=cmp c q.S.ai[k]
 live:∀b∈q.aB,q.aX<b.To
 yU:∀b∈q.aB,∀t,b.bO<=t->q.aX<=t->bj q.L b.Node t=bP
theorem NX{q:jt}(h:VD q):gF 5000 (q.L.map eG) q.aX q.S.ai.length=some true:=by
 have o:=h.ref.xh;unfold gF;refine bR.eq (wi (q.L.map eG) (λ_ _=>True) (λi f hi _ p=>?_) (λf r=>?_) (by grind))
 ·have a:i<q.L.length:=by simp_all
  have u:=h.ref.used _ (bC a);have t:=h.lo _ (bC a);have e:(q.L.map eG)[i]=eG q.L[i]:=U_ ..;obtain ⟨v,b,d⟩:=nK (eG q.L[i]).ah q.S.ai.length u.xh;have:=d.2 u.shares;subst this;obtain ⟨x,g,k⟩:=Uf (eG q.L[i]).ay;have:=k.2 u.need;subst this;rw[if_pos (cR hi),bY hi,e,aw,fA,b,aw,if_neg (by simp),g,aw];have m:decide ((eG q.L[i]).n_<=q.aX)=false:=by show decide (q.L[i].To<=q.aX)=false;simp_all
  have n:decide ((eG q.L[i]).n_ > 281474976710656)=false:=by show decide (q.L[i].To > _)=false;have:=u.hi;simp_all
  rw[m,n];dsimp only;rw[if_neg (by simp),bU (show i<1000000 by omega)]
  simp_all
 ·rw[if_neg (by simp),bg]
theorem Mt{a:Int}{r:aD}(h:0<=a/\a<=1099511627776)(b:aN r):dJ [({ At:=a,cq:=r }:bM)]:=
 ⟨by simp,λi hi=>by grind,λs hs=>by grind⟩
theorem UK{a:Int}{r:aD}(h:0<=a/\a<=1099511627776)(b:aN r):vq 5000 a r=some ([{ At:=a,cq:=r }],0):=by unfold vq;rw[jx (by simp) (Mt h b),aw,if_neg (by simp)]
theorem HR{q:jt}(k:br q.S){i:Nat}(hi:i<q.S.ai.length):aN q.S.ai[i]:=k.nodes.ok _ (bC hi)
theorem Lm{q:jt}(h:VD q):bR (zeE 5000 (q.L.map eG) q.S q.aX q.aB) λr=>∃nodes,r=.inr (nodes,q.aX,q.S.aH)/\PR nodes q (1+2 * (q.L.length+q.aB.length)):=by
 have hq:=h.ref;have hs:=jY hq.spec;have nn:=hq.spec.nodes.hi;have ad:=hq.now;have hf:=hq.xh;have hb:=hq.cM.len;unfold zeE;obtain ⟨rb,eb,av⟩:=DA q.aB q.S.ai.length (by omega);have:=av.2 hq.cM;subst this;rw[fA,Ba hs hq.spec,aw,if_neg (by simp;omega),eb,aw,if_neg (by simp),NX h,aw];dsimp only;rw[if_neg (by simp)];have ak:=hs.parts;refine jj q.S.aH.length (λi x=>x=((i:Int),q.S.aH.take i)) (λi x f hi G Y=>?_) (λx f G=>?_) rfl (by omega)
 ·subst G;have pl:=hs.part _ (bC hi);dsimp only;rw[if_pos (cR hi),bY hi,aw];unfold za0;rw[FR (by omega),aw,Bi (by simp;omega),aw,bU (show i<1000000 by omega)];exact Y _ (by rw[Fk hi])
 subst G;dsimp only;rw[if_neg (by simp),xr];refine jj q.S.ai.length (λi x=>x.1=(i:Int)/\x.2=(q.S.ai.take i).map λr=>[({ At:=q.aX,cq:=r }:bM)]) (λi x f hi G Y=>?_) (λx f G=>?_) ⟨rfl,rfl⟩ (by omega)
 ·obtain ⟨y,M⟩:=x;obtain ⟨rfl,rfl⟩:=G;dsimp only;rw[if_pos (cR hi),bY hi,aw,UK ad (HR hq.spec hi),aw,if_neg (by simp),Bi (by simp;omega),aw,bU (show i<1000000 by omega)];exact Y _ ⟨rfl,by rw[Fk hi,yBL];rfl⟩
 obtain ⟨y,M0⟩:=x;obtain ⟨rfl,rfl⟩:=G;dsimp only;rw[if_neg (by simp),xr];have af:∀(r:aD)(t:Int),q.aX<=t->xO [({ At:=q.aX,cq:=r }:bM)] t r:=λr t K=>⟨_,zK.2 rfl,K,λs' A _=>by rw[zK.1 A];exact Pu _,rfl⟩;refine jj (q.L.map eG).length (λi x=>x.1=(i:Int)/\x.2.length=q.S.ai.length/\CQ x.2 q.aX (1+2 * i)/\∀(k:Nat)(A:k<x.2.length)(U:k<q.S.ai.length)(t:Int),q.aX<=t->xO x.2[k] t (fw q.S.ai[k] (bj (q.L.take i) k t))) (λi x f hi G Y=>?_) (λx f G=>?_) ⟨rfl,by simp,⟨λk hk=>?_,λk hk A=>by simp⟩,λk A U t K=>?_⟩ (by simp;omega)
 ·obtain ⟨y,M⟩:=x;obtain ⟨rfl,N,o,E⟩:=G;dsimp only at N o E ⊢;have Z:i<q.L.length:=by simpa using hi
  have u:=hq.used _ (bC Z);have lo:=h.lo _ (bC Z);have e:(q.L.map eG)[i]=eG q.L[i]:=U_ ..;have st:∀k t,bj (q.L.take (i+1)) k t=sI (bj (q.L.take i) k t) (jR q.L[i] k t):=λk t=>by rw[Fk Z,lW]
  rw[if_pos (cR hi),bY hi,e,aw];refine (Bx (by omega) o (by omega) (a:=q.aX) (b:=(eG q.L[i]).n_) (l:=(eG q.L[i]).ah) (need:=(eG q.L[i]).ay) (by rw[N];exact u.shares) u.xh u.need (Pu _) (show q.aX<q.L[i].To by omega) u.hi (λk hk t v h1 U hv c=>?_)).bind λr aa=>?_
  ·have O:k<q.S.ai.length:=by omega
   have ev:=hv.Al (o.each k hk).1 (E k hk O t h1);have cp:=h.caps (i+1) k O t c;rw[st,qO] at cp;have ea:jR q.L[i] k t=mulR (dm q.L[i].ah k) q.L[i].ay:=by unfold jR;rw[if_pos ⟨by omega,U⟩]
   rw[ea] at cp;rw[ev,Ci];show cmp c (mulR (dm q.L[i].ah k) q.L[i].ay)<=_;omega
  ·obtain ⟨r1,r2,r3⟩:=aa;rw[if_neg (by simp[r1]),bU (show i<1000000 by omega)];refine Y _ ⟨rfl,by dsimp only;omega,⟨λk hk=>?_,λk hk A=>?_⟩,λk A U t K=>?_⟩
   ·have T:=r3 k (by dsimp only at hk;omega) hk;exact ⟨T.ok,by have:=T.len;have:=(o.each k (by dsimp only at hk;omega)).2;dsimp only at *;omega⟩
   ·have T:=r3 k (by dsimp only at hk;omega) hk;have n0:=(o.each k (by dsimp only at hk;omega)).1.ne;dsimp only;rw[T.first n0 A,o.first k (by dsimp only at hk;omega) n0]
   ·have T:=r3 k (by dsimp only at A;omega) A;have:=T.val t _ (E k (by omega) U t K);dsimp only;rw[st];by_cases g:t<q.L[i].To
    ·have ea:jR q.L[i] k t=mulR (dm q.L[i].ah k) q.L[i].ay:=by unfold jR;rw[if_pos ⟨by omega,g⟩]
     rw[if_pos ⟨K,g⟩] at this;rw[ea,<-Gw];exact this
    ·have ea:jR q.L[i] k t=bP:=by unfold jR;rw[if_neg λW=>g W.2]
     rw[if_neg (show ¬(q.aX<=t/\t<(eG q.L[i]).n_) from λW=>g W.2)] at this;rw[ea,GP];exact this
 ·obtain ⟨y,M⟩:=x;obtain ⟨rfl,N,o,E⟩:=G;dsimp only at N o E ⊢;rw[if_neg (by simp)];rw[wX,xr] at E;rw[wX] at o;refine jj q.aB.length (λi x=>x.1=(i:Int)/\x.2.length=q.S.ai.length/\CQ x.2 q.aX (1+2 * (q.L.length+i))/\∀(k:Nat)(A:k<x.2.length)(t:Int),q.aX<=t->xO x.2[k] t (bH { q with aB:=q.aB.take i } k t)) (λi x f hi G Y=>?_) (λx f G=>?_) ⟨rfl,N,by simpa using o,λk A t K=>?_⟩ (by omega)
  ·obtain ⟨y,M⟩:=x;obtain ⟨rfl,N,o,E⟩:=G;dsimp only at N o E ⊢;have bk:=hq.cM.each i hi;have lv:=h.live _ (bC hi);have nd:=bk.one.node;obtain ⟨n,en⟩:∃n:Nat,q.aB[i].Node=(n:Int):=⟨q.aB[i].Node.toNat,by omega⟩;have hn:n<M.length:=by omega
   have ab:n<q.S.ai.length:=by omega
   obtain ⟨sk,lk⟩:=o.each n hn;have f0:=o.first n hn sk.ne;rw[if_pos (cR hi),fA,bY hi,aw,if_neg (by simp;omega),en,bY hn,aw,bY ab,aw];have nv:=HR hq.spec ab;have an:kk q.S.ai (n:Int)=q.S.ai[n]:=zi ab;have X:∀t,q.aX<=t->q.aB[i].bO<=t->t<q.aB[i].To->bH { q with aB:=q.aB.take i } n t=q.S.ai[n]:=λt h1 U h3=>by
    unfold bH;rw[if_neg]
    ·have:=h.yU _ (bC hi) t U h1;rw[en] at this;show fw (kk q.S.ai n) (bj q.L n t)=_;rw[this,an];exact OH λc=>by rw[Ci,NF];omega
    ·rintro ⟨b,Q,m1,m2,m3⟩;obtain ⟨j,hj,rfl⟩:=Nx.1 Q;rw[BV] at hj;simp only[SC] at m1 m2 m3;refine (bk.up j (by omega) (by omega)).2 ⟨by rw[m1,en],by omega,bk.one.span,by omega,by omega⟩
   have ax:=bk.one.lo;have a0:=bk.one.hi;have sp:=bk.one.span;have mx:∀P:Int->Prop,P (if q.aX > q.aB[i].bO then q.aX else q.aB[i].bO)=P (max q.aX q.aB[i].bO):=λP=>by congr 1;split <;> omega
   rw[show (if q.aX > q.aB[i].bO then q.aX else q.aB[i].bO)=max q.aX q.aB[i].bO by split <;> omega]
   refine (xa (by omega) sk nv (by omega) (show max q.aX q.aB[i].bO<q.aB[i].To by omega) (by omega) λt v h1 U hv c=>?_).bind λr aa=>?_
   ·have ev:=hv.Al sk (E n hn t (by omega));rw[ev,X t (by omega) (by omega) U];exact Pu _
   ·obtain ⟨r1,T⟩:=aa;rw[if_neg (by simp[r1]),wh,bU (show i<1000000 by omega),Int.toNat_natCast];refine Y _ ⟨rfl,by simp[N],⟨λk hk=>?_,λk hk A=>?_⟩,λk A t K=>?_⟩
    ·by_cases g:n=k
     ·subst g;have e:(M.set n r.1)[n]'(by simpa using hn)=r.1:=yBC _;show dJ (M.set n r.1)[n]/\(M.set n r.1)[n].length<=_;rw[e];exact ⟨T.ok,by have:=T.len;omega⟩
     ·have d:k<M.length:=by simpa using hk
      have e:(M.set n r.1)[k]'(by simpa using d)=M[k]:=yBM g _;show dJ (M.set n r.1)[k]/\(M.set n r.1)[k].length<=_;rw[e];have:=o.each k d;exact ⟨this.1,by have:=this.2;omega⟩
    ·by_cases g:n=k
     ·subst g;have e:(M.set n r.1)[n]'(by simpa using hn)=r.1:=yBC _;simp only[e];rw[T.first sk.ne T.ok.ne,f0]
     ·have d:k<M.length:=by simpa using hk
      have e:(M.set n r.1)[k]'(by simpa using d)=M[k]:=yBM g _;simp only[e];exact o.first k d (o.each k d).1.ne
    ·have d:k<M.length:=by simpa using A
     have p:Dq (q.aB.take (i+1)) k t↔Dq (q.aB.take i) k t\/(q.aB[i].Node=(k:Int)/\q.aB[i].bO<=t/\t<q.aB[i].To):=by
      unfold Dq;rw[Fk hi];constructor
      ·rintro ⟨b,Q,m⟩;rcases ld.1 Q with g | g
       ·exact .inl ⟨b,g,m⟩
       ·rw[zK.1 g] at m;exact .inr m
      ·rintro (⟨b,g,m⟩ | m)
       ·exact ⟨b,yBF _ g,m⟩
       ·exact ⟨_,yBA _ (zK.2 rfl),m⟩
     by_cases g:n=k
     ·subst g;have e:(M.set n r.1)[n]'(by simpa using hn)=r.1:=yBC _;simp only[e];have Vd:=E n hn t K;have new:=T.val t _ Vd;by_cases W:q.aB[i].bO<=t/\t<q.aB[i].To
      ·rw[if_pos ⟨by omega,W.2⟩,X t K W.1 W.2] at new;have:bH { q with aB:=q.aB.take (i+1) } n t=bP:=by
        unfold bH;rw[if_pos];exact p.2 (.inr ⟨en,W⟩)
       rw[this];have z:fw q.S.ai[n] q.S.ai[n]=bP:=OH λc=>by rw[Ci,NF];omega
       rw[z] at new;exact new
      ·rw[if_neg λR=>W ⟨by omega,R.2⟩] at new;have:bH { q with aB:=q.aB.take (i+1) } n t=bH { q with aB:=q.aB.take i } n t:=by
        unfold bH;by_cases R:Dq (q.aB.take i) n t
        ·rw[if_pos (show Dq (q.aB.take (i+1)) n t from p.2 (.inl R)),if_pos (show Dq (q.aB.take i) n t from R)]
        ·rw[if_neg (show ¬Dq (q.aB.take (i+1)) n t from λg4=>(p.1 g4).elim R λg5=>W g5.2),if_neg (show ¬Dq (q.aB.take i) n t from R)]
       rw[this];exact new
     ·have e:(M.set n r.1)[k]'(by simpa using d)=M[k]:=yBM g _;simp only[e];have:bH { q with aB:=q.aB.take (i+1) } k t=bH { q with aB:=q.aB.take i } k t:=by
       unfold bH;by_cases R:Dq (q.aB.take i) k t
       ·rw[if_pos (show Dq (q.aB.take (i+1)) k t from p.2 (.inl R)),if_pos (show Dq (q.aB.take i) k t from R)]
       ·rw[if_neg (show ¬Dq (q.aB.take (i+1)) k t from λg4=>(p.1 g4).elim R λg5=>by rw[en] at g5;omega),if_neg (show ¬Dq (q.aB.take i) k t from R)]
      rw[this];exact E k d t K
  ·obtain ⟨y,M⟩:=x;obtain ⟨rfl,N,o,E⟩:=G;dsimp only at N o E ⊢;rw[if_neg (by simp),bg];rw[xr] at E;exact ⟨M,rfl,N,o,E⟩
  ·have e:bH { q with aB:=q.aB.take 0 } k t=fw (kk q.S.ai k) (bj q.L k t):=by
    unfold bH;rw[if_neg];rintro ⟨b,Q,_⟩;simp at Q
   have O:k<q.S.ai.length:=by dsimp only at A;omega
   rw[e,zi O];exact E k A O t K
 ·have d:k<q.S.ai.length:=by simpa using hk
  have e:((q.S.ai).map λr=>[({ At:=q.aX,cq:=r }:bM)])[k]'(by simpa using d)=[{ At:=q.aX,cq:=q.S.ai[k] }]:=U_ ..;simp only[e];exact ⟨Mt ad (HR hq.spec d),by simp⟩
 ·have e:((q.S.ai).map λr=>[({ At:=q.aX,cq:=r }:bM)])[k]'(by simpa using U)=[{ At:=q.aX,cq:=q.S.ai[k] }]:=U_ ..;simp only[e];have z:fw q.S.ai[k] (bj (q.L.take 0) k t)=q.S.ai[k]:=OH λc=>by rw[Ci];simp[bj,NF]
  rw[z];exact af _ t K
def zeroJ:aM:={ Id:=0,cu:=0,Queue:=0,aL:=0,ay:={ bA:=0,Mem:=0,bE:=0,bG:=0 },aO:=0,aF:=[],State:=0,Ok:=false,cG:=false,aJ:=0,cI:=0,Start:=0,End:=0,Array:=0 }
theorem WZ{l:List aM}(hl:l.length<=300)(hs:bW l)(id:Int):bR (zaN 5000 l id) λr=>(r.2=true↔∃j∈l,j.Id=id)/\(r.2=true->At l id r.1):=by
 unfold zaN;rw[jV];refine half hl hs id (λj=>some (decide (j.Id<id))) (λj hj=>rfl) (λi=>some i) (λi hi d g=>?_) _ (λf x=>?_)
 ·rw[bg,bx];refine ⟨λh=>?_,λh=>?_⟩
  ·simp only[bz] at h;have a:i<l.length:=by omega
   rw[bY a,aw,bg];simp only[nh];refine ⟨⟨λe=>⟨_,bC a,e⟩,λ⟨j,b,e⟩=>?_⟩,λe=>⟨by omega,by omega,by simp_all⟩⟩;obtain ⟨k,hk,rfl⟩:=iW b;rcases Vo k i with q | q | q
   ·grind
   ·simp_all
   ·have:=hs.lt q hk;grind
  ·simp only[bz] at h;simp only[bg,bX,ET,false_implies,Kv]
   grind [List.getElem_of_mem]
 grind
section
variable{l:List aM}
theorem Hs(hl:l.length<=300)(hs:bW l){k:Nat}(hk:k<l.length):zaN 5000 l l[k].Id=some ((k:Int),true):=by obtain ⟨⟨r,b⟩,e,d,f⟩:=WZ hl hs l[k].Id;have hb:b=true:=d.2 ⟨_,bC hk,rfl⟩;subst hb;have a:At l l[k].Id r:=f rfl;have:=hs.inj a.hi hk a.is;have:=a.lo;rw[e,show r=(k:Int) by omega]
theorem tY{j:aM}(h:gn j):ZV 5000 j=some true:=by obtain ⟨r,e,q⟩:=Bf j;rw[e,q.2 h]
theorem Pb(hs:bW l){k:Nat}(hk:k<l.length){j:aM}(d:j.Id=l[k].Id):bW (l.set k j):=by
 have a:∀i (h:i<l.length),((l.set k j)[i]'(by simp_all)).Id=l[i].Id:=λi h=>by grind
 intro i hi;have b:i+1<l.length:=by simp_all
 rw[a i (by omega),a (i+1) b];exact hs i b
end
def ON(x:Int):Int:=if x≥281474976710656 then 0 else x+1
theorem LR{x:Int}(h:0<=x):kg 5000 x=some (ON x):=by
 unfold kg ON;simp only[bz]
 grind [wr]
def qU(Q:List Int)(q:Int):List Int:=if 0<=q/\q<Q.length then Q.set q.toNat (ON (Q[q.toNat]?.getD 0)) else Q
theorem Ov(Q:List Int)(q:Int):(qU Q q).length=Q.length:=by grind [qU]
def pT(Q:List Int):Prop:=∀x∈Q,0<=x/\x<=281474976710656
theorem Sl{x:Int}(h:0<=x/\x<=281474976710656):0<=ON x/\ON x<=281474976710656:=by grind [ON]
theorem Gu{Q:List Int}(h:pT Q)(q:Int):pT (qU Q q):=by
 unfold qU;split
 ·rename_i hq;have hl:q.toNat<Q.length:=by omega
  intro x a;rcases yCn a with e | e
  ·exact h x e
  ·subst e;rw[eK hl];exact Sl (h _ (bC hl))
 ·exact h
theorem LJ{Q:List Int}(h:pT Q)(q:Int):zbe 5000 Q q=some (qU Q q):=by
 unfold zbe qU;by_cases hq:0<=q/\q<Q.length
 ·rw[if_pos (by simp_all),if_pos hq];obtain ⟨a,e⟩:=FF (l:=Q) hq.1 hq.2;rw[e,aw,LR (h _ (bC a)).1,aw,aw,eK a];rfl
 grind
def nW(Q:List Int)(a b:Int):List Int:=if b=a then qU Q a else qU (qU Q a) b
theorem Nh(Q:List Int)(a b:Int):(nW Q a b).length=Q.length:=by grind [nW,Ov]
theorem Qd{Q:List Int}(h:pT Q)(a b:Int):pT (nW Q a b):=by grind [nW,Gu]
section
variable{l:List aM}
def Dm(x:Int):Prop:=x=1\/x=2
instance (x:Int):Decidable (Dm x):=by unfold Dm;infer_instance
theorem NZ(x:Int):iU 5000 x=some (decide (Dm x)):=by unfold iU;congr 1;rw[Bool.eq_iff_iff];rw[bz];simp only[gz,nh,Dm]
end
structure Shows (st:ca):Prop where
 bq:st.aj.length<=300
 after:∀j∈st.aj,j.aF.length<=10
 cn:st.ae.length<=300
 asc:zT st.ae
 ids:∀a∈st.ae,0<=a.aW/\a.aW<=1048576
 sh:∀a∈st.ae,a.ah.length<=300
 cM:st.aB.length<=20
 use:st.kH.length<=20
 stamps:st.az.aq.length<=20
theorem WM{s:bm}{st:ca}(hw:lw s st)(q:aY s st):Shows st:=
 ⟨hw.bq,hw.after,hw.cn,Az q,Gy q,hw.sh,hw.cM,hw.use,hw.stamps⟩
theorem Xj{st:ca}(h:Shows st) :
  Th 5000 st.az.aq st.aj (st.ae.map λa=>(a.aW,a)) st.aX st.Next st.dE st.aB st.kH st.az.ai=some st:=by
 have hl:=h.bq;have hb:=h.cM;have b:=h.use;have hs:=h.stamps;unfold Th;rw[LK (by omega) h.after,aw,show a_ 5000 (st.ae.map λa=>(a.aW,a))=some st.ae from Dk h.cn h.asc h.ids h.sh,aw,Bz (by omega),aw,ry (by omega),aw,show zb3 5000 st.az.aq=some st.az.aq from FR (by omega),aw]
section
variable{l:List aM}
theorem get_some(hl:l.length<=300)(hs:bW l){k:Nat}(hk:k<l.length)(a:l[k].aF.length<=1000):zbW 5000 l l[k].Id=some (l[k],true):=by unfold zbW;rw[Hs hl hs hk,aw];simp only[Ny,bX,cr];rw[bY hk,aw,CA (by omega),aw]
theorem Yy(hl:l.length<=300)(hs:bW l){k:Nat}(hk:k<l.length)(a:l[k].aF.length<=1000):zcQ 5000 l l[k].Id=some (l[k],true):=by unfold zcQ;rw[get_some hl hs hk a,aw]
end
def Lp(st:ca)(id:Int):aM:=(st.aj.find? λj=>j.Id == id).getD zeroJ
theorem WK{st:ca}(hs:bW st.aj){i:Nat}(hi:i<st.aj.length):Lp st st.aj[i].Id=st.aj[i]:=by
 unfold Lp;obtain ⟨j,e⟩:∃j,st.aj.find? (λj=>j.Id == st.aj[i].Id)=some j:=by
  cases h:st.aj.find? (λj=>j.Id == st.aj[i].Id) with
  |some j=>simp_all
  |none=>
   have:=List.find?_eq_none.1 h _ (bC hi)
   simp_all
 rw[e,Rm];have a:=List.find?_some e;simp only[nh] at a;obtain ⟨k,hk,rfl⟩:=iW (yB9 e);have:=hs.inj hk hi a
 simp_all
def uY(st:ca)(a:bV):Int:=(Lp st a.aW).Start+(Lp st a.aW).aO
def eS(st:ca)(a:bV):D_:={ bO:=st.aX,To:=uY st a,ay:=a.ay,ah:=a.ah }
def tq(s:bm)(st:ca):jt:={ S:=s,aX:=st.aX,L:=st.ae.map (eS st),aB:=st.aB }
section
variable{s:bm}{st:ca}(hw:lw s st)(q:aY s st)
include hw q
theorem vh{a:bV}(b:a∈st.ae):∃i,∃h:i<st.aj.length,st.aj[i].Id=a.aW/\eV s st st.aj[i] a/\sM st.aj[i]=true/\Lp st a.aW=st.aj[i]:=by obtain ⟨j,hj,P⟩:=eI.mem q.cn a b;obtain ⟨d,e⟩:=ND.1 hj;obtain ⟨i,hi,rfl⟩:=iW d;exact ⟨i,hi,P.Ej.symm,P,e,by rw[P.Ej];exact WK q.bq.bN hi⟩
theorem DY{a:bV}(b:a∈st.ae):st.aX<uY st a/\uY st a<=st.aX+65536:=by
 obtain ⟨i,hi,_,P,_,e⟩:=vh hw q b;have j:=q.bq.each _ (bC hi);have d:=P.now;have f:=j.start;have g:=j.ok.wall
 grind [uY]
omit hw q in
theorem Mh{H:List aM}{A:List bV}{F:List aD}(h:eI s st H A F):A.length=H.length:=by
 induction H generalizing A F with
 |nil=>rw[show A=[] from h];rfl
 |cons j H ih=>obtain ⟨b,a,rfl,_,_,d⟩:=h;grind
theorem q_:st.ae.length<=st.aj.length:=by rw[Mh q.cn];grind
omit hw q in
theorem Bj(L:List D_)(k t:Int)(c:Nat):cmp c (bj L k t)=(L.map λu=>cmp c (jR u k t)).sum:=by
 have:∀(L:List D_)(r:aD),cmp c (L.foldl (λr u=>sI r (jR u k t)) r)=cmp c r+(L.map λu=>cmp c (jR u k t)).sum:=by
  intro L;induction L with
  |nil=>simp_all
  |cons u L ih=>grind [qO]
 grind [bj.eq_1,NF]
omit hw q in
theorem aab{H:List aM}{A:List bV}{F:List aD}(h:eI s st H A F)(g:∀r∈F,aN r)(a:∀j∈H,aN j.ay)(k:Nat)(hk:k<F.length)(t:Int)(c:Nat):((A.map (eS st)).map λu=>cmp c (jR u k t)).sum<=cmp c F[k]:=by
 induction H generalizing A F with
 |nil=>
  rw[show A=[] from h]
  grind [rB,List.getElem_mem]
 |cons j H ih=>
  obtain ⟨b,m,rfl,P,d,e⟩:=h;have hl:k<(kL F b).length:=by grind [ZF]
  have:=ih e (tI d) (λi hi=>a i (nS _ hi)) hl;rw[mT hl] at this;unfold qi at this;rw[Ci] at this;rw[ql,ql,yCw];have le:cmp c (jR (eS st b) k t)<=cmp c (mulR (dm b.ah k) b.ay):=by
   unfold jR;split
   ·exact Pu _
   ·rw[NF];rw[zr];have o:=xU (l:=b.ah) (λx f=>by have:=(P.kJ.shares.mem x f);omega) k;rw[P.need];exact yBY o (rB.1 (a j (rJ ..)) c).1
  omega
theorem MA:∀u∈(tq s st).L,qv u s.ai.length:=λu f=>by
 obtain ⟨a,d,rfl⟩:=iP.1 f;obtain ⟨i,hi,_,P,_,e⟩:=vh hw q d;have j:=q.bq.each _ (bC hi);have b:=DY hw q d;have n:=q.nums.now;refine ⟨P.kJ.shares,hw.sh a d,?_,n.1,?_⟩
 ·show aN a.ay;rw[P.need];exact j.ok.need
 ·show uY st a<=_;omega
theorem Rb(a:st.aj.length<=30):pK (tq s st):={
 spec:=q.spec
 now:=q.nums.now
 cM:=q.jh.cM
 used:=MA hw q
 xh:=by have:=q_ hw q;show (st.ae.map (eS st)).length<=100;grind }
theorem Yb(f:st.aj.length<=30):VD (tq s st):={
 ref:=Rb hw q f
 lo:=λu hu=>by obtain ⟨a,d,rfl⟩:=iP.1 hu;exact ⟨rfl,(DY hw q d).1⟩
 caps:=λi k hk t c=>by
  have n:=aab q.cn q.spec.nodes.ok (λj hj=>(q.bq.each j (ND.1 hj).1).ok.need) k hk t c;rw[Bj];show ((((st.ae.map (eS st)).take i)).map λu=>cmp c (jR u k t)).sum<=cmp c s.ai[k];have o:((st.ae.map (eS st)).map λu=>cmp c (jR u k t)).sum=(((st.ae.map (eS st)).take i).map λu=>cmp c (jR u k t)).sum+(((st.ae.map (eS st)).drop i).map λu=>cmp c (jR u k t)).sum:=by grind [List.take_append_drop]
  have K:0<=(((st.ae.map (eS st)).drop i).map λu=>cmp c (jR u k t)).sum:=by
   have:∀M:List D_,(∀u∈M,qv u s.ai.length)->0<=(M.map λu=>cmp c (jR u k t)).sum:=by
    intro M;induction M with
    |nil=>simp_all
    |cons u M ih=>
     intro h;have:=ih λv p=>h v (nS _ p);have:=If (h u (rJ ..)) k t c
     grind
   exact this _ λu hu=>MA hw q u (ZS hu)
  omega
 live:=λb hb=>(q.jh.live b hb).2
 yU:=λb hb t n o=>OH λc=>by
  rw[Bj,NF];show ((st.ae.map (eS st)).map λu=>cmp c (jR u b.Node t)).sum=0;have:∀x∈(st.ae.map (eS st)).map λu=>cmp c (jR u b.Node t),x=0:=λx r=>by
   obtain ⟨u,hu,rfl⟩:=iP.1 r;obtain ⟨a,d,rfl⟩:=iP.1 hu;obtain ⟨i,hi,A,P,_,e⟩:=vh hw q d;by_cases g:∃y∈a.ah,y.Node=b.Node
   ·obtain ⟨y,E,G⟩:=g;have:=q.jh.yU a d _ (bC hi) A y E b hb G.symm;unfold jR;rw[if_neg,NF];show ¬(st.aX<=t/\t<uY st a)
    grind [uY]
   ·have z:dm a.ah b.Node=0:=by
     grind [yE]
    unfold jR;split
    ·show cmp c (mulR (dm a.ah b.Node) a.ay)=0
     grind [zr]
    grind [NF]
  have m:∀M:List Int,(∀x∈M,x=0)->M.sum=0:=by
   intro M;induction M with
   |nil=>simp_all
   |cons x M ih=>simp_all
  simp_all }
theorem UP{i:Nat}(hi:i<st.aj.length)(h:sM st.aj[i]=true):ve 5000 st.aj[i]=some (st.aj[i].Start+st.aj[i].aO):=by have j:=q.bq.each _ (bC hi);have a:=j.ok.wall;have b:=j.ok.start;unfold ve TG;rw[fA,tY j.ok,aw,if_neg (by simp),aw];dsimp only;unfold sM at h;rw[h,if_neg (by simp),wr (by omega) (by omega)]
theorem xj(b:st.aj.length<=30){g:List (Int×bV)}(h:Th 5000 st.az.aq st.aj g st.aX st.Next st.dE st.aB st.kH st.az.ai=some st):∃nodes,zcr 5000 st.az.aq st.aj g s.ai s.aH s.aq s.aR s.am.kF s.am.cT s.am.fC s.am.bL s.bS s.Mode s.aj s.jG s.aI s.bo s.dg s.In s.Out s.bT st.aX st.Next st.dE st.aB st.kH st.az.ai=some (.inr (nodes,st.aX,s.aH))/\PR nodes (tq s st) (1+2 * (st.ae.length+st.aB.length)):=by
 have hl:=hw.bq;have t:=hw.cn;obtain ⟨r,e,nodes,rfl,hp⟩:=Lm (Yb hw q b);have m:(tq s st).L.length=st.ae.length:=wX ..;rw[m] at hp;refine ⟨nodes,?_,hp⟩;unfold zcr;rw[h,aw];have z:EW ({ ay:=({ bA:=0,Mem:=0,bE:=0,bG:=0 }:aD),ah:=[],n_:=0 }:ju) 0 (st.ae.length:Int)=some []:=by
  unfold EW
  grind
 rw[z,aw];refine bR.eq (jj st.ae.length (λi x=>x=((i:Int),(st.ae.take i).map λa=>eG (eS st a))) (λi x f hi d n=>?_) (λx f d=>?_) rfl (by omega))
 ·subst d;have o:=bC hi;obtain ⟨k,hk,p,P,hj,u⟩:=vh hw q o;dsimp only;rw[if_pos (cR hi),bY hi,aw,<-p,Yy hl q.bq.bN hk (by have:=hw.after _ (bC hk);omega),aw,UP hw q hk hj,aw,Bi (by grind),aw,bU (show i<1000000 by omega)];refine n _ ?_;rw[Fk hi,yBL];have:eG (eS st st.ae[i])={ ay:=st.ae[i].ay,ah:=st.ae[i].ah,n_:=st.aj[k].Start+st.aj[k].aO }:=by
   grind [eG,eS,uY]
  simp_all
 ·subst d;dsimp only;rw[if_neg (by simp),mj hw.spec,aw,xr];have:(st.ae.map λa=>eG (eS st a))=(tq s st).L.map eG:=by show _=(st.ae.map (eS st)).map eG;simp_all
  rw[this];have v:zeE 5000 ((tq s st).L.map eG) s st.aX st.aB=some (.inr (nodes,st.aX,s.aH)):=e
  grind [bg]
end
theorem few30P(s:bm)(st:ca):bR (zcC 5000 s st) λr=>r=true->st.aj.length<=30:=by
 simp only[zcC,fA];refine (few07 s).bind λr b=>?_;simp only[if_true,bg,bx];refine ⟨by simp,λh=>?_⟩;refine (few17 st.aj).bind λd a=>?_;simp only[bx,bg];refine ⟨by simp,λh=>?_⟩;simp only[gz,bz,not_or,Int.not_lt,im,nO] at h;obtain ⟨⟨⟨⟨h,e⟩,g⟩,k⟩,m⟩:=h;have n:=a h;refine wi st.ae (λ_ q=>True) (λi f h _ b=>?_) (λf hq=>?_) (by omega)
 ·simp only[cR h,if_true,bY h,aw,bU (show i<1000000 by omega),bx,bg,bz]
  simp_all
 ·simp only[eL,bX,cr,bg];omega
def cY(s:bm)(j:aM):AB:={ Part:=((s.aq[j.Queue.toNat]?).getD default).Part,aL:=j.aL,ay:=j.ay,aO:=j.aO }
theorem tV{s:bm}{j:aM}(hq:0<=j.Queue/\j.Queue<s.aq.length):∃h:j.Queue.toNat<s.aq.length,aE s.aq j.Queue=some s.aq[j.Queue.toNat]/\cY s j={ Part:=s.aq[j.Queue.toNat].Part,aL:=j.aL,ay:=j.ay,aO:=j.aO }:=by grind [FF,cY]
theorem vr{s:bm}{st:ca}{q:jt}(k:br s)(eq:q.S=s){j:aM}(h:f_ s st j):gL q (cY s j):=by obtain ⟨a,_,e⟩:=tV ⟨h.ok.queue.1,h.queue⟩;have b:=k.iq.ok _ (bC a);have m:=h.ok.many;rw[e];exact ⟨by rw[eq];exact b.part,by grind,h.ok.need,h.ok.ux,h.ok.wall⟩
def named(j:aM)(r:fY×Bool):fY×Bool:=if r.2=true then ({ aW:=j.Id,At:=r.1.At,ah:=r.1.ah },true) else ({ aW:=0,At:=0,ah:=[] },false)
section
variable{nodes:List (List bM)}{q:jt}{L:Nat}(hL:L<=200)(hq:pK q)(hp:PR nodes q L){st:ca}{j:aM}(hj:f_ q.S st j)
include hL hq hp hj
end
section
variable{nodes:List (List bM)}{q:jt}{L:Nat}(hL:L<=200)(hq:pK q)(hp:PR nodes q L){w:AB}(hw:gL q w)
include hL hq hp hw
end
theorem Ib{l:List dj}{n:Int}(h:ba l n){y:dj}(hl:∀x∈l,x.Node<y.Node)(a:0<=y.Node/\y.Node<n)(hm:1<=y.aL/\y.aL<=64):ba (l++[y]) n:=λi hi=>by
 rw[yZ,xAe] at hi;by_cases g:i<l.length
 ·have s:=h i g;have e:(l++[y])[i]'(by omega)=l[i]:=yCv g;rw[e];refine ⟨?_,s.lt,s.lo,s.hi⟩;have:Kb ((l++[y]).map (·.Node)) i=Kb (l.map (·.Node)) i:=by
   cases i with
   |zero=>rfl
   |succ i=>grind [qG]
  rw[this];exact s.up
 ·have b:i=l.length:=by omega
  subst b;have e:(l++[y])[l.length]'(by simp)=y:=by simp
  rw[e];refine ⟨?_,a.2,hm.1,hm.2⟩;cases d:l.length with
  |zero=>show (-1:Int)<y.Node;omega
  |succ i=>grind [qG]
section
variable{F:List aD}{l:List Int}{need:aD}(hP:oL F l)(hR:mn l F.length)(hn:aN need)(hz:need≠bP)
include hP hR hn hz
structure PU (F:List aD) (need:aD) (l:List Int) (x:Int×List dj) (many:Int):Prop where
 shares:ba x.2 F.length
 mem:∀y∈x.2,y.Node∈l/\y.aL<=dL (kk F y.Node) need
 TU:x.1+kz x.2=many
 left:x.1=if many<=cS F l need then 0 else many-cS F l need
theorem OP{many:Int}(hm:1<=many)(i:Nat):PU F need (l.take i) (rF F need (l.take i) many) many:=by
 induction i with
 |zero=>refine ⟨λi h=>by grind [rF],λy a=>by grind [rF],by simp[rF,kz],?_⟩;simp only[rF,List.take_zero,List.foldl_nil,cS,List.map_nil,List.sum_nil];omega
 |succ i ih=>
  by_cases hi:i<l.length
  ·have c:=od hP hn (bC hi);have st:=uR hP hn hz hi many;have rs:=yf hP hn hz hi;have up:∀n∈l.take i,n<l[i]:=λn d=>by
    obtain ⟨j,hj,rfl⟩:=Nx.1 d;rw[BV] at hj;rw[SC];have:∀m,j<m->∀(hm:m<l.length),l[j]<l[m]:=by
     intro m;induction m with
     |zero=>omega
     |succ m f=>
      intro g hm;have s:=(hR (m+1) hm).1
      grind [pR]
    grind
   have b:∀n,n∈l.take (i+1)↔n∈l.take i\/n=l[i]:=λn=>by rw[Fk hi,ld,zK]
   have k:=ih.left;have o:=yx hP hn hz (i:=i);rw[st];generalize rF F need (l.take i) many=x at *;have p:0<=x.1:=by omega
   unfold ZY;by_cases q:HA x.1 (dL (kk F l[i]) need)=0
   ·rw[if_pos q];refine ⟨ih.shares,λy a=>⟨(b _).2 (.inl (ih.mem y a).1),(ih.mem y a).2⟩,ih.TU,?_⟩
    grind [HA]
   ·rw[if_neg q];have hb:=hP.node _ (bC hi);have e:1<=HA x.1 (dL (kk F l[i]) need)/\HA x.1 (dL (kk F l[i]) need)<=64/\HA x.1 (dL (kk F l[i]) need)<=dL (kk F l[i]) need:=by
     unfold HA at q ⊢;omega
    refine ⟨Ib ih.shares (λy a=>up _ (ih.mem y a).1) hb ⟨e.1,e.2.1⟩,λy a=>?_,?_,?_⟩
    ·rcases ld.1 a with a | a
     ·exact ⟨(b _).2 (.inl (ih.mem y a).1),(ih.mem y a).2⟩
     simp_all
    ·grind [PU.TU,kz]
    grind [HA]
  grind [List.take_of_length_le]
theorem Tk{many:Int}(h:(BY F l many need).2=true):ba (BY F l many need).1 F.length/\kz (BY F l many need).1=many/\(∀y∈(BY F l many need).1,y.Node∈l)/\∀(n:Nat)(hn:n<F.length),wW (mulR (dm (BY F l many need).1 n) need) F[n]\/dm (BY F l many need).1 n=0:=by
 obtain ⟨m,u⟩:=AP.1 h;have P:=OP hP hR hn hz m l.length;rw[xr] at P;have e:BY F l many need=((rF F need l many).2,true):=by unfold BY;simp_all
 rw[e];have z:=P.left;rw[if_pos u] at z;refine ⟨P.shares,by grind [PU.TU],λy f=>(P.mem y f).1,λn p=>?_⟩;dsimp only;by_cases g:∃y∈(rF F need l many).2,y.Node=(n:Int)
 ·left;obtain ⟨y,f,v⟩:=g;obtain ⟨m1,r⟩:=P.mem y f;obtain ⟨i,hi,rfl⟩:=iW f;have o:=JL P.shares hi;rw[v] at o m1 r;have x:kk F (n:Int)=F[n]:=zi p;have t:=hP.Wa _ m1;rw[x] at r t;have k:=vz t hn;rw[o];have d:∀a b:Int,(a,b)∈ER F[n] need->0<=b->(rF F need l many).2[i].aL * b<=a:=λa b A hb=>by
   have m:=k.fit _ A;dsimp only at m;have:(rF F need l many).2[i].aL * b<=dL F[n] need * b:=yAW r hb;omega
  intro c;rw[zr]
  match c with
  |0=>exact d _ _ (by simp[ER];exact .inl ⟨rfl,rfl⟩) hn.FN.1
  |1=>exact d _ _ (by simp[ER];exact .inr (.inl ⟨rfl,rfl⟩)) hn.mem.1
  |2=>exact d _ _ (by simp[ER];exact .inr (.inr (.inl ⟨rfl,rfl⟩))) hn.IL.1
  |_+3=>exact d _ _ (by simp[ER];exact .inr (.inr (.inr ⟨rfl,rfl⟩))) hn.JZ.1
 grind [yE]
end
def pM(q:jt)(u:D_):jt:={ q with L:=q.L++[u] }
open Classical in
theorem Tg(q:jt)(u:D_)(k t:Int):bH (pM q u) k t=if Dq q.aB k t then bP else fw (fw (kk q.S.ai k) (bj q.L k t)) (jR u k t):=by
 unfold bH pM;dsimp only;by_cases h:Dq q.aB k t
 ·simp_all
 ·rw[if_neg h,if_neg h,lW,Gw]
theorem mulR_le{n:Int}{need v:aD}(hn:0<=n)(a:aN need)(h:wW (mulR n need) v\/n=0)(b:aN v):wW (mulR n need) v:=by
 rcases h with h | h
 ·exact h
 ·intro c
  grind [rB,zr]
theorem GM{nodes:List (List bM)}{q:jt}{L:Nat}(hL:L<=200)(hq:pK q)(hp:PR nodes q L){cK a:Int}{sh:List dj}{need:aD}(hs:ba sh q.S.ai.length)(hn:aN need)(hw:1<=a/\a<=65536)(A:q.aX<=cK)(Y:cK<=1099511627776)
  (d:∀(k:Nat)(h:k<q.S.ai.length) t,cK<=t->t<cK+a->wW (mulR (dm sh k) need) (bH q k t)) :
  ∃b,za4 5000 nodes cK sh need a q.aX=some (b,0)/\PR b (pM q { bO:=cK,To:=cK+a,ay:=need,ah:=sh }) (L+2):=by
 have i:=hp.len;have nn:=hq.spec.nodes.hi;have E:=hq.now;have sl:sh.length<=300:=by have:=m_ hs (by omega);omega
 obtain ⟨Z,G,K⟩:=nK sh nodes.length sl;have:=K.2 (by simp_all);subst this;obtain ⟨r2,M,N⟩:=Uf need;have:=N.2 hn;subst this;obtain ⟨r,e,O,P,p⟩:=Bx (by omega) hp.cK (by omega) (by simp_all) sl hn A (show cK<cK+a by omega) (by omega) λk hk t v ta tb Q=>by
  rw[(hp.iff hk (by omega)).1 Q]
  grind
 refine ⟨r.1,?_,?_⟩
 ·unfold za4;rw[fA,if_neg (by simp_all),G,aw,if_neg (by simp),M,aw];have R:decide (a<1)=false:=by simp_all
  have U:decide (a > 65536)=false:=by simp_all
  dsimp only;rw[R,U,if_neg (by simp),wr (x:=cK+a) (by omega) (by omega),e,aw,O]
 ·refine ⟨by rw[P,i];rfl,⟨λk hk=>?_,λk hk W=>?_⟩,λk hk t X=>?_⟩
  ·have T:=p k (by omega) hk;exact ⟨T.ok,by have:=T.len;have:=(hp.cK.each k (by omega)).2;omega⟩
  ·have T:=p k (by omega) hk;have z:=(hp.cK.each k (by omega)).1.ne;rw[T.first z W,hp.cK.first k (by omega) z];rfl
  ·have n:k<nodes.length:=by omega
   have T:=p k n hk;have u:q.aX<=t:=X;have v:=T.val t _ (hp.val k n t u);rw[Tg];by_cases g:cK<=t/\t<cK+a
   ·rw[if_pos g] at v;have y:jR { bO:=cK,To:=cK+a,ay:=need,ah:=sh } k t=mulR (dm sh k) need:=by unfold jR;simp_all
    rw[y];by_cases m:Dq q.aB k t
    ·rw[if_pos m];have o:bH q k t=bP:=by unfold bH;simp_all
     have f:=d k (by omega) t g.1 g.2;rw[o] at f v;have:fw bP (mulR (dm sh k) need)=bP:=OH λc=>by
      have h2:=f c;have h3:=eW (jA hs k) (rB.1 hn c)
      grind [Ci,NF,zr]
     simp_all
    ·rw[if_neg m];have o:bH q k t=fw (kk q.S.ai k) (bj q.L k t):=by unfold bH;simp_all
     simp_all
   ·rw[if_neg g] at v;have y:jR { bO:=cK,To:=cK+a,ay:=need,ah:=sh } k t=bP:=by unfold jR;grind
    rw[y];by_cases m:Dq q.aB k t
    ·rw[if_pos m];have o:bH q k t=bP:=by unfold bH;simp_all
     simp_all
    ·rw[if_neg m];have o:bH q k t=fw (kk q.S.ai k) (bj q.L k t):=by unfold bH;simp_all
     rw[o] at v;have:fw (fw (kk q.S.ai k) (bj q.L k t)) bP=fw (kk q.S.ai k) (bj q.L k t):=OH λc=>by simp only[Ci,NF];omega
     simp_all
end Go.Plain
end
section
namespace Go.Plain
open Go.Abs
abbrev K3:=Int×Int×Int
def Sm(u v:K3):Prop:=u.1<v.1\/(u.1=v.1/\(u.2.1<v.2.1\/(u.2.1=v.2.1/\u.2.2<v.2.2)))
instance (u v:K3):Decidable (Sm u v):=by unfold Sm;infer_instance
theorem cmp1{N:Nat}(a b:Int):fD N a b=some (if a<b then -1 else if a > b then 1 else 0):=by
 simp only[fD,cmp_isNaN_int,aw];simp;split
 ·rfl
 ·split <;> rfl
theorem cmp3{N:Nat}(E:4<N)(u v:K3):bR (ZK N ([u.1,u.2.1,u.2.2]:List Int) ([v.1,v.2.1,v.2.2]:List Int)) λr=>(r<0↔Sm u v):=by
 obtain ⟨N,rfl⟩:∃M,N=M+5:=⟨N-5,by omega⟩;obtain ⟨a,b,c⟩:=u;obtain ⟨d,e,f⟩:=v;unfold ZK;have o:i64.wrap (0+1)=1:=rfl;have w1:i64.wrap (1+1)=2:=rfl;have w2:i64.wrap (2+1)=3:=rfl;have p:∀x y z:Int,aE [x,y,z] 0=some x:=λ_ _ _=>rfl;have t:∀x y z:Int,aE [x,y,z] 1=some y:=λ_ _ _=>rfl;have A:∀x y z:Int,aE [x,y,z] 2=some z:=λ_ _ _=>rfl;simp only[bF,Fa,yBD,cmp1,aw,o,w1,w2,p,t,A,Sm];simp;by_cases g:a<d
 ·rw[if_pos g];simp[bg];omega
 ·rw[if_neg g];by_cases h:d<a
  ·rw[if_pos h];simp[bg];omega
  ·rw[if_neg h];by_cases i:b<e
   ·rw[if_pos i];simp[bg];omega
   ·rw[if_neg i];by_cases k:e<b
    ·rw[if_pos k];simp[bg];omega
    ·rw[if_neg k];by_cases m:c<f
     ·rw[if_pos m];simp[bg];omega
     ·rw[if_neg m];by_cases n:f<c
      ·rw[if_pos n];simp[bg];omega
      ·rw[if_neg n];simp[bg];omega
def QG(p:List K3)(x:Int):K3:=p.getD x.toNat (0,0,0)
def Sb(p:List K3)(x:Int):Prop:=0<=x/\x<p.length
theorem Yn{p:List K3}{x:Int}(h:Sb p x):aE p x=some (QG p x):=by obtain ⟨a,e⟩:=FF h.1 h.2;rw[e,QG,ZJ,eK a];rfl
theorem CL{N:Nat}(d:4<N){p:List K3}{x y:Int}(e:Sb p x)(f:Sb p y) :
  bR ((aE p x).bind λa=>(aE p y).bind λb=>(ZK N ([a.1,a.2.1,a.2.2]:List Int) ([b.1,b.2.1,b.2.2]:List Int)).bind λr=>some r) λr=>(r<0↔Sm (QG p x) (QG p y)):=by
 rw[Yn e,Yn f,aw,aw];exact (cmp3 d _ _).bind λr g=>bg.2 g
theorem dQ{α:Type}{L R:List α}{y:α}{i:Int}(h:i=L.length):aE (L++y::R) i=some y:=by subst h;rw[bY (by simp)];simp
theorem jD{α:Type}{L R:List α}{y z:α}{i:Int}(h:i=L.length):(L++y::R).set i.toNat z=L++z::R:=by subst h;simp
theorem Bg{x y:Int}(h:x=y)(a:-9000000<=y)(b:y<9000000):i64.wrap x=y:=by rw[wr (by omega) (by omega)];exact h
theorem up_ok{N:Nat}{L V R:List Int}{y:Int}{k E:Int}(hk:k=L.length)(t:E=L.length+V.length)(O:V.length<N)(hs:(L++y::V++R).length<=1000) :
  bF (λh (d:Int×List Int)=>
     if (decide (d.1<E))=true then
      (aE d.2 (i64.wrap (d.1+1))).bind λe=>
      (aE d.2 d.1).bind λi=>
      (aE d.2 d.1).bind λu=>
      (aE (d.2.set d.1.toNat e) (i64.wrap (d.1+1))).bind λz=>
      h ((i64.wrap (d.1+1)),((d.2.set d.1.toNat e).set (i64.wrap (d.1+1)).toNat i))
     else
      some d.2) N (k,L++y::V++R)=some (L++V++y::R):=by
 apply bR.eq;simp only[yZ,Fa] at hs;refine lpM (I:=λx=>∃b g,x=((b.length:Int),b++y::g++R)/\b++g=L++V/\E=b.length+g.length) (m:=λx=>(E-x.1).toNat) (λx f A G=>?_) ⟨L,V,by rw[hk],rfl,t⟩ (by omega);obtain ⟨b,g,rfl,n,o⟩:=A;have p:=HE List.length n;simp only[yZ] at p;cases g with
 |nil=>simp only[yBD] at o;rw[if_neg (by simp;omega),bg,<-n];simp
 |cons v a=>
  simp only[Fa] at o p;have w:i64.wrap ((b.length:Int)+1)=((b++[y]).length:Nat):=Bg (by simp) (by simp;omega) (by simp;omega);have K:b++y::v::a++R=(b++[y])++v::(a++R):=by simp
  have r:b++y::v::a++R=b++y::(v::a++R):=by simp
  have M:b++v::(v::a++R)=(b++[v])++v::(a++R):=by simp
  simp only;rw[if_pos (by simp;omega),w,show aE (b++y::v::a++R) ((b++[y]).length:Nat)=some v from by rw[K];exact dQ rfl,wh,
   show aE (b++y::v::a++R) (b.length:Int)=some y from by rw[r];exact dQ rfl,Option.bind_some,Option.bind_some,r,jD rfl,M,dQ (by simp),Option.bind_some,jD (by simp)]
  refine G _ ⟨b++[v],a,by simp,by rw[<-n];simp,by simp;omega⟩ (by simp;omega)
theorem dn_ok{N:Nat}{L V R:List Int}{y:Int}{k E:Int}(hk:k=L.length+V.length)(G:E=L.length)(K:V.length<N)(hs:(L++V++y::R).length<=1000) :
  bF (λi (a:Int×List Int)=>
      if (decide (a.1 > E))=true then
       (aE a.2 (i64.wrap (a.1-1))).bind λe=>
       (aE a.2 a.1).bind λn=>
       (aE a.2 a.1).bind λp=>
       (aE (a.2.set a.1.toNat e) (i64.wrap (a.1-1))).bind λr=>
       i ((i64.wrap (a.1-1)),((a.2.set a.1.toNat e).set (i64.wrap (a.1-1)).toNat n))
      else
       some a.2) N (k,L++V++y::R)=some (L++y::V++R):=by
 apply bR.eq;simp only[yZ,Fa] at hs;refine lpM (I:=λx=>∃g d,x=(((L++g).length:Int),L++g++y::d)/\g++d=V++R) (m:=λx=>(x.1-E).toNat) (λx f t u=>?_) ⟨V,R,by rw[hk];simp,rfl⟩ (by simp;omega);obtain ⟨g,d,rfl,h⟩:=t;have o:=HE List.length h;simp only[yZ] at o;rcases List.eq_nil_or_concat g with rfl | ⟨b,v,rfl⟩
 ·rw[if_neg (by simp;omega),bg];simp at h;rw[h];simp
 ·simp only[yCh,yZ,Fa,yBD] at o h ⊢;have w:i64.wrap (((L.length+(b.length+(0+1)):Nat):Int)-1)=((L++b).length:Nat):=Bg (by simp;omega) (by simp;omega) (by simp;omega);have z:L++(b++[v])++y::d=(L++b)++v::(y::d):=by simp
  have M:L++(b++[v])++y::d=(L++(b++[v]))++y::d:=rfl;have A:(L++(b++[v]))++v::d=(L++b)++v::(v::d):=by simp
  rw[if_pos (by simp;omega),w,show aE (L++(b++[v])++y::d) ((L++b).length:Nat)=some v from by rw[z];exact dQ rfl,wh,
   dQ (by simp),Option.bind_some,Option.bind_some,jD (by simp),A,dQ (by simp),Option.bind_some,jD (by simp)]
  refine u _ ⟨b,v::d,by simp,by rw[<-h];simp⟩ (by simp;omega)
theorem WL{N:Nat}{L U M V R:List Int}{a b n:Int}(ha:a=L.length)(hb:b=L.length+U.length+M.length)(hn:n=U.length)(E:V.length=U.length)(hN:U.length<N)(hs:(L++U++M++V++R).length<=1000) :
  bF (λr (d:Int×List Int)=>
          if (decide (d.1<n))=true then
           (aE d.2 (i64.wrap (b+d.1))).bind λp=>
           (aE d.2 (i64.wrap (a+d.1))).bind λt=>
           (aE d.2 (i64.wrap (a+d.1))).bind λG=>
           (aE (d.2.set (i64.wrap (a+d.1)).toNat p) (i64.wrap (b+d.1))).bind λK=>
           r ((i64.wrap (d.1+1)),((d.2.set (i64.wrap (a+d.1)).toNat p).set (i64.wrap (b+d.1)).toNat t))
          else
           some d.2) N (0,L++U++M++V++R)=some (L++V++M++U++R):=by
 apply bR.eq;simp only[yZ] at hs;refine lpM (I:=λx=>∃h k i o,x=((U.length:Int)-k.length,h++k++i++o++R)/\h++o++i++k++R=L++V++M++U++R/\o.length=k.length/\k.length<=U.length/\(h.length:Int)=a+U.length-k.length/\(h.length:Int)+k.length+i.length=b+U.length-k.length)
  (m:=λx=>(n-x.1).toNat) (λx f O P=>?_) ⟨L,U,M,V,by simp,rfl,E,by omega,by omega,by omega⟩ (by omega)
 obtain ⟨h,k,i,o,rfl,y,z,Q,T,W⟩:=O;cases k with
 |nil=>
  cases o with
  |nil=>rw[if_neg (by simp;omega),bg,<-y]
  |cons=>simp at z
 |cons u e=>
  cases o with
  |nil=>simp at z
  |cons v g=>
   simp only[Fa] at z Q T W;have X:=HE List.length y;simp only[yZ,Fa] at X;have Y:i64.wrap (a+((U.length:Int)-((u::e).length:Nat)))=(h.length:Nat):=Bg (by simp;omega) (by omega) (by omega);have Z:i64.wrap (b+((U.length:Int)-((u::e).length:Nat)))=((h++u::e++i).length:Nat):=Bg (by simp;omega) (by simp;omega) (by simp;omega);have wc:i64.wrap (((U.length:Int)-((u::e).length:Nat))+1)=(U.length:Int)-(e.length:Nat):=Bg (by simp;omega) (by omega) (by omega);have e1:h++u::e++i++v::g++R=(h++u::e++i)++v::(g++R):=by simp
   have A:h++u::e++i++v::g++R=h++u::(e++i++v::g++R):=by simp
   have e3:h++v::(e++i++v::g++R)=(h++v::e++i)++v::(g++R):=by simp
   simp only;rw[if_pos (by simp;omega),Y,Z,wc,show aE (h++u::e++i++v::g++R) ((h++u::e++i).length:Nat)=some v from by rw[e1];exact dQ rfl,wh,
    show aE (h++u::e++i++v::g++R) (h.length:Nat)=some u from by rw[A];exact dQ rfl,Option.bind_some,Option.bind_some,A,jD rfl,e3,dQ (by simp),Option.bind_some,jD (by simp)]
   refine P _ ⟨h++[v],e,i++[u],g,by simp,by rw[<-y];simp,by omega,by omega,by simp;omega,by simp;omega⟩ (by simp;omega)
theorem XA{R:Type}{b:(Int×Int->Option R)->Int×Int->Option R}{Q:R->Prop}{a hi N:Nat}(G:Nat->Prop)(h:a<=hi)(v:hi<N)
  (hs:∀f (s r:Nat),a<=s->s<r->r<=hi->(G ((s+r) / 2)->bR (f (((((s+r) / 2:Nat):Int)+1),(r:Int))) Q)->(¬G ((s+r) / 2)->bR (f ((s:Int),(((s+r) / 2:Nat):Int))) Q)->bR (b f ((s:Int),(r:Int))) Q)
  (o:∀f (s:Nat),a<=s->s<=hi->(s=a\/G (s-1))->(s=hi\/¬G s)->bR (b f ((s:Int),(s:Int))) Q):bR (bF b N ((a:Int),(hi:Int))) Q:=by
 refine lpM (I:=λx=>∃s r:Nat,x=((s:Int),(r:Int))/\a<=s/\s<=r/\r<=hi/\(s=a\/G (s-1))/\(r=hi\/¬G r)) (m:=λx=>(x.2-x.1).toNat) (λx f p i=>?_) ⟨a,hi,rfl,by omega,h,by omega,.inl rfl,.inl rfl⟩ (by simp;omega);obtain ⟨s,r,rfl,d,t,e,k,n⟩:=p;rcases WB t with u | rfl
 ·refine hs f s r d u e (λg=>i _ ⟨(s+r) / 2+1,r,by simp,by omega,by omega,e,.inr (by simpa using g),n⟩ (by simp;omega)) (λg=>i _ ⟨s,(s+r) / 2,rfl,d,by omega,by omega,k,.inr g⟩ (by simp;omega))
 ·exact o f s d e k n
theorem pd{R:Type}{a b:Nat}{o:Option R}(h:a=b):Bq a b o=o:=by subst h;simp[Bq]
theorem rot_ok{N:Nat}{L U V R:List Int}{m i j:Int}(hm:m=L.length+U.length)(hi:i=U.length)(hj:j=V.length)(hU:0<U.length)(hV:0<V.length)(hN:U.length+V.length<N)(hs:(L++U++V++R).length≤1000) :
    bF (fun u (d:Int×Int×List Int)=>
               if (d.1 != d.2.1)=true then
                 if (decide (d.1 > d.2.1))=true then
                   (
                     bF (fun P (k:Int×List Int)=>
                       if (decide (k.1<d.2.1))=true then
                         (aE k.2 (i64.wrap (m+k.1))).bind fun v=>
                         (aE k.2 (i64.wrap ((i64.wrap (m-d.1))+k.1))).bind fun Q=>
                         (aE k.2 (i64.wrap ((i64.wrap (m-d.1))+k.1))).bind fun aa=>
                         (aE (k.2.set (i64.wrap ((i64.wrap (m-d.1))+k.1)).toNat v) (i64.wrap (m+k.1))).bind fun ab=>
                         P ((i64.wrap (k.1+1)),((k.2.set (i64.wrap ((i64.wrap (m-d.1))+k.1)).toNat v).set (i64.wrap (m+k.1)).toNat Q))
                       else
                         some k.2) N (0,d.2.2)).bind fun y=>
                   Bq d.2.2.length y.length <|
                   u ((i64.wrap (d.1-d.2.1)),d.2.1,y)
                 else
                   (
                     bF (fun T (o:Int×List Int)=>
                       if (decide (o.1<d.1))=true then
                         (aE o.2 (i64.wrap ((i64.wrap ((i64.wrap (m+d.2.1))-d.1))+o.1))).bind fun z=>
                         (aE o.2 (i64.wrap ((i64.wrap (m-d.1))+o.1))).bind fun W=>
                         (aE o.2 (i64.wrap ((i64.wrap (m-d.1))+o.1))).bind fun ad=>
                         (aE (o.2.set (i64.wrap ((i64.wrap (m-d.1))+o.1)).toNat z) (i64.wrap ((i64.wrap ((i64.wrap (m+d.2.1))-d.1))+o.1))).bind fun af=>
                         T ((i64.wrap (o.1+1)),((o.2.set (i64.wrap ((i64.wrap (m-d.1))+o.1)).toNat z).set (i64.wrap ((i64.wrap ((i64.wrap (m+d.2.1))-d.1))+o.1)).toNat W))
                       else
                         some o.2) N (0,d.2.2)).bind fun A=>
                   Bq d.2.2.length A.length <|
                   u (d.1,(i64.wrap (d.2.1-d.1)),A)
               else
                 (
                   bF (fun X (p:Int×List Int)=>
                     if (decide (p.1<d.1))=true then
                       (aE p.2 (i64.wrap (m+p.1))).bind fun E=>
                       (aE p.2 (i64.wrap ((i64.wrap (m-d.1))+p.1))).bind fun Y=>
                       (aE p.2 (i64.wrap ((i64.wrap (m-d.1))+p.1))).bind fun ak=>
                       (aE (p.2.set (i64.wrap ((i64.wrap (m-d.1))+p.1)).toNat E) (i64.wrap (m+p.1))).bind fun an=>
                       X ((i64.wrap (p.1+1)),((p.2.set (i64.wrap ((i64.wrap (m-d.1))+p.1)).toNat E).set (i64.wrap (m+p.1)).toNat Y))
                     else
                       some p.2) N (0,d.2.2)).bind fun Z=>
                 some Z) N (i,j,L++U++V++R)=some (L++V++U++R):=by
  apply bR.eq
  simp only [yZ] at hs
  refine lpM (I:=fun x=>∃r h g t,x=((h.length:Int),(g.length:Int),r++h++g++t)/\r++g++h++t=L++V++U++R/\m=r.length+h.length/\0<h.length/\0<g.length/\h.length≤U.length/\g.length≤V.length) (m:=fun x=>(x.1+x.2.1).toNat) (fun x f hI hr=>?_) ⟨L,U,V,R,by rw [hi,hj],rfl,hm,hU,hV,by omega,by omega⟩ (by simp; omega)
  obtain ⟨r,h,g,t,rfl,O,h2,h3,h4,h5,h6⟩:=hI
  have hl:=HE List.length O
  simp only [yZ] at hl
  have wa:i64.wrap (m-(h.length:Int))=(r.length:Int):=Bg (by omega) (by omega) (by omega)
  simp only [wa]
  by_cases e:h.length=g.length
  · rw [if_neg (by simp [e])]
    have:=WL (N:=N) (L:=r) (U:=h) (M:=[]) (V:=g) (R:=t) (a:=r.length) (b:=m) (n:=h.length) rfl (by simp; omega) rfl e.symm (by omega) (by simp; omega)
    simp only [Ec] at this
    rw [this,aw,bg,O]
  · rw [if_pos (by simp; omega)]
    by_cases e2:g.length<h.length
    · rw [if_pos (by simp; omega)]
      have G:h=h.take g.length++h.drop g.length:=(J_ _ _).symm
      have:=WL (N:=N) (L:=r) (U:=h.take g.length) (M:=h.drop g.length) (V:=g) (R:=t) (a:=r.length) (b:=m) (n:=g.length) rfl (by simp; omega) (by simp; omega) (by simp; omega) (by simp; omega) (by simp; omega)
      rw [AX r (h.take _),←G] at this
      rw [this,aw,pd (by simp; omega),show i64.wrap ((h.length:Int)-g.length)=((h.drop g.length).length:Int) from Bg (by simp; omega) (by omega) (by simp; omega)]
      refine hr _ ⟨r++g,h.drop g.length,h.take g.length,t,by simp; omega,?_,by simp; omega,by simp; omega,by simp; omega,by simp; omega,by simp; omega⟩ (by simp; omega)
      rw [←O]
      conv=>rhs; rw [G]
      simp
    · rw [if_neg (by simp; omega)]
      have K:g=g.take (g.length-h.length)++g.drop (g.length-h.length):=(J_ _ _).symm
      have wb:i64.wrap (m+(g.length:Int))=m+g.length:=Bg rfl (by omega) (by omega)
      have wc:i64.wrap (m+(g.length:Int)-h.length)=m+g.length-h.length:=Bg rfl (by omega) (by omega)
      have:=WL (N:=N) (L:=r) (U:=h) (M:=g.take (g.length-h.length)) (V:=g.drop (g.length-h.length)) (R:=t) (a:=r.length) (b:=m+g.length-h.length) (n:=h.length) rfl (by simp; omega) rfl (by simp; omega) (by omega) (by simp; omega)
      rw [AX (r++h) (g.take _),←K] at this
      simp only [wb,wc]
      rw [this,aw,pd (by simp; omega),show i64.wrap ((g.length:Int)-h.length)=((g.take (g.length-h.length)).length:Int) from Bg (by simp; omega) (by omega) (by simp; omega)]
      refine hr _ ⟨r,g.drop (g.length-h.length),g.take (g.length-h.length),h++t,by simp; omega,?_,by simp; omega,by simp; omega,by simp; omega,by simp; omega,by simp; omega⟩ (by simp; omega)
      rw [←O]
      conv=>rhs; rw [K]
      simp
def BJ(p:List K3)(u v:Int):Prop:=¬Sm (QG p v) (QG p u)
def xB(p:List K3)(l:List Int):Prop:=l.Pairwise (BJ p)
theorem BJ.trans{p:List K3}{a b c:Int}(h:BJ p a b)(i:BJ p b c):BJ p a c:=by unfold BJ Sm at *;omega
theorem BJ.refl{p:List K3}{a:Int}:BJ p a a:=by unfold BJ Sm;omega
theorem Sm.le{p:List K3}{a b:Int}(h:Sm (QG p a) (QG p b)):BJ p a b:=by unfold BJ Sm at *;omega
theorem Ra{p:List K3}{l:List Int}(h:xB p l){i j:Nat}(a:i<=j)(hj:j<l.length):BJ p (l.getD i 0) (l.getD j 0):=by
 rcases WB a with b | rfl
 ·have:=yBh.1 h i j (by omega) hj b;simpa[ZJ,hj,show i<l.length by omega] using this
 ·exact .refl
theorem Ek{p:List K3}{l:List Int}(h:xB p l){t:Nat}(d:t<=l.length){y:Int}(a:t=0\/BJ p (l.getD (t-1) 0) y):∀u∈l.take t,BJ p u y:=λu b=>by
 obtain ⟨i,hi,rfl⟩:=iW b;simp only[BV] at hi;rcases a with rfl | a
 ·omega
 ·have:=Ra h (i:=i) (j:=t-1) (by omega) (by omega);rw[SC];have e:l.getD i 0=l[i]'(by omega):=by simp[ZJ,show i<l.length by omega]
  rw[<-e];exact this.trans a
theorem EP{p:List K3}{l:List Int}(h:xB p l){t:Nat}{y:Int}(a:l.length<=t\/BJ p y (l.getD t 0)):∀u∈l.drop t,BJ p y u:=λu b=>by
 obtain ⟨i,hi,rfl⟩:=iW b;simp only[yBX] at hi;rcases a with a | a
 ·omega
 ·have:=Ra h (i:=t) (j:=t+i) (by omega) (by omega);rw[yCk];have e:l.getD (t+i) 0=l[t+i]'(by omega):=by simp[ZJ,show t+i<l.length by omega]
  rw[<-e];exact a.trans this
theorem xB.Nq{p:List K3}{l:List Int}(h:xB p l)(t:Nat):xB p (l.take t):=List.Pairwise.sublist (List.take_sublist _ _) h
theorem xB.MC{p:List K3}{l:List Int}(h:xB p l)(t:Nat):xB p (l.drop t):=List.Pairwise.sublist (List.drop_sublist _ _) h
theorem Qu{p:List K3}{l:List Int}(h:xB p l){t:Nat}(f:t<=l.length){y:Int}(g:t=0\/BJ p (l.getD (t-1) 0) y)(i:l.length<=t\/BJ p y (l.getD t 0)):xB p (l.take t++y::l.drop t):=by
 have a:=Ek h f g;have b:=EP h i;refine NJ.2 ⟨h.Nq t,yBw.2 ⟨b,h.MC t⟩,λu e v d=>?_⟩;rcases gu.1 d with rfl | d
 ·exact a u e
 ·exact (a u e).trans (b v d)
theorem jW{L B R:List Int}{t k:Nat}(hk:k=L.length+t)(a:t<B.length):(L++B++R).getD k 0=B.getD t 0:=by subst hk;simp only[ZJ];rw[AX,KP (by omega),EZ (by omega),yBG]
theorem JT{l:List Int}{k:Nat}{i:Int}(h:i=(k:Int))(hk:k<l.length):aE l i=some (l.getD k 0):=by subst h;rw[bY hk];simp[ZJ,hk]
theorem Ct{p:List K3}{l:List Int}(h:∀x∈l,Sb p x){k:Nat}(hk:k<l.length):Sb p (l.getD k 0):=by
 have:l.getD k 0=l[k]:=by simp[ZJ,hk]
 rw[this];exact h _ (bC hk)
theorem Er{X R:Type}{K:X->Option R}{J:(X->Option R)->Option R}{Q:R->Prop}(Nd:X->Prop)(a:∀k,(∀x,Nd x->bR (k x) Q)->bR (J k) Q)(b:∀x,Nd x->bR (K x) Q):bR (jn K J) Q:=a K b
set_option maxHeartbeats 4000000 in
theorem Ll{p:List K3}:∀(N:Nat)(P A B S:List Int)(a m b:Int),A≠[]->B≠[]->(P++A++B++S).length<=1000->(∀x∈P++A++B++S,Sb p x)->A.length+B.length+1100<=N ->
  a=P.length->m=P.length+A.length->b=P.length+A.length+B.length ->
  bR (zbb N (P++A++B++S) a m b p) λr=>∃C,r=P++C++S/\C.Perm (A++B)/\(xB p A->xB p B->xB p C):=by
 intro N;induction N with
 |zero=>intro P A B S a m b _ _ _ _ h;omega
 |succ N ih=>
  intro P A B S a m b hA hB hl M hN ha hm hb;have a1:0<A.length:=Vi.2 hA;have a2:0<B.length:=Vi.2 hB;have ak:=hl;simp only[yZ] at ak;show bR (if (i64.wrap (m-a) == 1)=true then _ else _) _;rw[bx];have w1:i64.wrap (m-a)=A.length:=Bg (by omega) (by omega) (by omega);have w2:i64.wrap (b-m)=B.length:=Bg (by omega) (by omega) (by omega);rw[w1];refine ⟨λU=>?_,λU=>?_⟩
  ·
   obtain ⟨y,rfl⟩:∃y,A=[y]:=by
    match A,U with
    |[y],_=>exact ⟨y,rfl⟩
    |[],U=>simp at U
    |_::_::_,U=>simp at U;omega
   have hy:aE (P++[y]++B++S) a=some y:=by rw[show P++[y]++B++S=P++y::(B++S) by simp];exact dQ ha
   have an:Sb p y:=M y (by simp);simp only[Fa,yBD] at hm hb ak hN;obtain ⟨z,rfl⟩:∃z:Nat,m=z:=⟨P.length+1,by omega⟩;obtain ⟨Q,rfl⟩:∃Q:Nat,b=Q:=⟨P.length+1+B.length,by omega⟩;refine XA (λh=>Sm (QG p ((P++[y]++B++S).getD h 0)) (QG p y)) (by omega) (by omega) (λf s r W X o hg hn=>?_) (λf s W X o E=>?_)
   ·have O:(s+r) / 2<(P++[y]++B++S).length:=by simp;omega
    simp only;rw[if_pos (by simp;omega),mid (by omega),JT rfl O,aw,hy,aw,Bg (x:=(((s+r) / 2:Nat):Int)+1) rfl (by omega) (by omega)];refine (CL (by omega) (Ct M O) an).bind λr T=>?_;rw[bx];exact ⟨λh=>hg (T.1 (by simpa using h)),λh=>hn λg=>h (by simpa using T.2 g)⟩
   ·simp only;rw[if_neg (by simp)];have ht:s-z<=B.length:=by omega
    have ax:B=B.take (s-z)++B.drop (s-z):=(J_ _ _).symm;have e:P++[y]++B++S=P++y::B.take (s-z)++(B.drop (s-z)++S):=by simp only[AX,JS,Aj];rw[<-AX (List.take _ _) (List.drop _ _) S,J_]
    rw[Bg (x:=(s:Int)-1) (y:=(P.length:Int)+(B.take (s-z)).length) (by simp;omega) (by omega) (by simp;omega)]
    conv in (P++[y]++B++S)=>rw[e]
    rw[up_ok ha rfl (by simp;omega) (by simp;omega),bg];refine ⟨B.take (s-z)++y::B.drop (s-z),by simp,?_,λ_ hb=>Qu hb ht ?_ ?_⟩
    ·conv=>rhs;rw[ax]
     exact List.perm_middle
    ·rcases o with o | o
     ·left;omega
     ·by_cases Y:s-z=0
      ·exact .inl Y
      ·right;rw[jW (L:=P++[y]) (B:=B) (R:=S) (t:=s-z-1) (by simp;omega) (by omega)] at o;exact o.le
    ·rcases E with E | E
     ·left;omega
     ·by_cases Y:B.length<=s-z
      ·exact .inl Y
      ·right;rw[jW (L:=P++[y]) (B:=B) (R:=S) (t:=s-z) (by simp;omega) (by omega)] at E;exact E
  ·rw[bx,w2];refine ⟨λh2=>?_,λh2=>?_⟩
   ·
    obtain ⟨y,rfl⟩:∃y,B=[y]:=by
     match B,h2 with
     |[y],_=>exact ⟨y,rfl⟩
     |[],U=>simp at U
     |_::_::_,U=>simp at U;omega
    have hy:aE (P++A++[y]++S) m=some y:=by rw[show P++A++[y]++S=(P++A)++y::S by simp];exact dQ (by simp;omega)
    have an:Sb p y:=M y (by simp);simp only[Fa,yBD] at hm hb ak hN;obtain ⟨K,rfl⟩:∃K:Nat,a=K:=⟨P.length,by omega⟩;obtain ⟨z,rfl⟩:∃z:Nat,m=z:=⟨P.length+A.length,by omega⟩;refine XA (λh=>¬Sm (QG p y) (QG p ((P++A++[y]++S).getD h 0))) (by omega) (by omega) (λf s r W X o hg hn=>?_) (λf s W X o E=>?_)
    ·have O:(s+r) / 2<(P++A++[y]++S).length:=by simp;omega
     simp only;rw[if_pos (by simp;omega),mid (by omega),hy,aw,JT rfl O,aw,Bg (x:=(((s+r) / 2:Nat):Int)+1) rfl (by omega) (by omega)];refine (CL (by omega) an (Ct M O)).bind λr T=>?_;rw[bx];refine ⟨λh=>hg λg=>?_,λh=>hn λg=>?_⟩
     ·have:=T.2 g;simp at h;omega
     ·simp at h;exact g (T.1 h)
    ·simp only;rw[if_neg (by simp)];have ht:s-K<=A.length:=by omega
     have av:A=A.take (s-K)++A.drop (s-K):=(J_ _ _).symm;have e:P++A++[y]++S=(P++A.take (s-K))++A.drop (s-K)++y::S:=by
      conv=>lhs;rw[av]
      simp
     conv in (P++A++[y]++S)=>rw[e]
     rw[dn_ok (by simp;omega) (by simp;omega) (by simp;omega) (by simp;omega),bg];refine ⟨A.take (s-K)++y::A.drop (s-K),by simp,?_,λhb _=>Qu hb ht ?_ ?_⟩
     ·conv=>rhs;rw[av]
      simp only[AX];exact List.Perm.append_left _ (yCi (l₁:=[y]))
     ·rcases o with o | o
      ·left;omega
      ·by_cases Y:s-K=0
       ·exact .inl Y
       ·right;rw[show P++A++[y]++S=P++A++([y]++S) by simp,jW (L:=P) (B:=A) (t:=s-K-1) (by omega) (by omega)] at o;exact o
     ·rcases E with E | E
      ·left;omega
      ·by_cases Y:A.length<=s-K
       ·exact .inl Y
       ·right;rw[show P++A++[y]++S=P++A++([y]++S) by simp,jW (L:=P) (B:=A) (t:=s-K) (by omega) (by omega)] at E;exact (Classical.not_not.1 E).le
   ·
    have av:2<=A.length:=by
     rcases rE A.length 2 with h | h
     ·exact absurd (show ((A.length:Int) == 1)=true by simp;omega) U
     ·exact h
    have ax:2<=B.length:=by
     rcases rE B.length 2 with h | h
     ·exact absurd (show ((B.length:Int) == 1)=true by simp;omega) h2
     ·exact h
    obtain ⟨K,rfl⟩:∃K:Nat,a=K:=⟨P.length,by omega⟩;obtain ⟨z,rfl⟩:∃z:Nat,m=z:=⟨P.length+A.length,by omega⟩;obtain ⟨Q,rfl⟩:∃Q:Nat,b=Q:=⟨P.length+A.length+B.length,by omega⟩;have ab:=mid (i:=K) (j:=Q) (by omega);obtain ⟨G,a0⟩:∃G,G=(K+Q) / 2:=⟨_,rfl⟩;rw[<-a0] at ab;simp only[ab];have wn:i64.wrap ((G:Int)+(z:Int))=((G+z:Nat):Int):=Bg (by simp) (by omega) (by omega);simp only[wn];have a5:(P++A++B++S).length=P.length+A.length+B.length+S.length:=by simp;omega
    refine Er (λx=>∃lo hi:Nat,x=((lo:Int),(hi:Int))/\lo<=hi/\hi<=G/\hi<=z/\K<=lo/\G+z<=Q+lo/\(lo=K\/G+z=Q+lo)/\(hi=z\/hi=G)) (λk hk=>?_) ?_
    ·rw[bx];refine ⟨λh=>hk _ ⟨G+z-Q,G,?_,?_⟩,λh=>hk _ ⟨K,z,rfl,?_⟩⟩
     ·rw[Bg (x:=((G+z:Nat):Int)-(Q:Int)) (y:=((G+z-Q:Nat):Int)) (by simp at h;omega) (by omega) (by omega)]
     ·simp at h;omega
     ·simp at h;omega
    ·rintro _ ⟨lo,hi,rfl,q1,q2,q3,q4,q5,q6,q7⟩;refine XA (λc=>¬Sm (QG p ((P++A++B++S).getD (G+z-1-c) 0)) (QG p ((P++A++B++S).getD c 0))) q1 (by omega) (λf s r W X o hg hn=>?_) (λf s W X o E=>?_)
     ·have O:(s+r) / 2<(P++A++B++S).length:=by omega
      have ad:G+z-1-(s+r) / 2<(P++A++B++S).length:=by omega
      have wp:i64.wrap (((G+z:Nat):Int)-1)=((G+z-1:Nat):Int):=Bg (by omega) (by omega) (by omega);simp only;rw[if_pos (by simp;omega),mid (by omega),wp,Bg (x:=((G+z-1:Nat):Int)-(((s+r) / 2:Nat):Int)) (y:=((G+z-1-(s+r) / 2:Nat):Int)) (by omega) (by omega) (by omega),JT rfl ad,aw,JT rfl O,aw,Bg (x:=(((s+r) / 2:Nat):Int)+1) rfl (by omega) (by omega)];refine (CL (by omega) (Ct M ad) (Ct M O)).bind λr T=>?_;rw[bx];refine ⟨λh=>hg λg=>?_,λh=>hn λg=>?_⟩
      ·have:=T.2 g;simp at h;omega
      ·simp at h;exact g (T.1 h)
     ·simp only;rw[if_neg (by simp)];have we:i64.wrap (((G+z:Nat):Int)-(s:Int))=((G+z-s:Nat):Int):=Bg (by omega) (by omega) (by omega);simp only[we];obtain ⟨d,a6⟩:∃d,d=s-K:=⟨_,rfl⟩;obtain ⟨n,a7⟩:∃n,n=G-s:=⟨_,rfl⟩;have la:d<=A.length:=by omega
      have lb:n<=B.length:=by omega
      have eA:A=A.take d++A.drop d:=(J_ _ _).symm;have eB:B=B.take n++B.drop n:=(J_ _ _).symm;have a8:(A.take d).length=d:=by simp;omega
      have a9:(A.drop d).length=A.length-d:=by simp
      have bb:(B.take n).length=n:=by simp;omega
      have bc:(B.drop n).length=B.length-n:=by simp
      have f1:d=0\/B.length<=n\/BJ p (A.getD (d-1) 0) (B.getD n 0):=by
       by_cases Y:d=0
       ·exact .inl Y
       by_cases Z:B.length<=n
       ·exact .inr (.inl Z)
       rcases o with o | o
       ·omega
       rw[jW (L:=P++A) (B:=B) (R:=S) (t:=n) (by simp;omega) (by omega),show P++A++B++S=P++A++(B++S) by simp,jW (L:=P) (B:=A) (t:=d-1) (by omega) (by omega)] at o;exact .inr (.inr o)
      have f2:n=0\/A.length<=d\/BJ p (B.getD (n-1) 0) (A.getD d 0):=by
       by_cases Y:n=0
       ·exact .inl Y
       by_cases Z:A.length<=d
       ·exact .inr (.inl Z)
       rcases E with E | E
       ·omega
       rw[jW (L:=P++A) (B:=B) (R:=S) (t:=n-1) (by simp;omega) (by omega),show P++A++B++S=P++A++(B++S) by simp,jW (L:=P) (B:=A) (t:=d) (by omega) (by omega)] at E;exact .inr (.inr (Classical.not_not.1 E).le)
      refine Er (λx=>x=P++A.take d++B.take n++A.drop d++B.drop n++S) (λk hk=>?_) ?_
      ·rw[bx];refine ⟨λh=>?_,λh=>hk _ ?_⟩
       ·simp only[bI,bz] at h;have e:P++A++B++S=(P++A.take d)++A.drop d++B.take n++(B.drop n++S):=by
         simp only[AX];rw[<-AX (B.take n) (B.drop n) S,J_,<-AX (A.take d) (A.drop d),J_]
        conv in (P++A++B++S)=>rw[e]
        rw[rot_ok (by simp;omega) (by rw[Bg rfl (by omega) (by omega)];omega) (by rw[Bg rfl (by omega) (by omega)];omega) (by omega) (by omega) (by omega) (by simp;omega),wh,pd (by rw[e];simp;omega)];exact hk _ (by simp)
       ·simp only[bI,bz,yBS] at h;rcases h with h | h
        ·have:A.drop d=[]:=by rw[<-ZQ];omega
         have e2:A.take d=A:=by rw[this] at eA;simpa using eA.symm
         rw[this,e2]
         conv=>lhs;rw[eB]
         simp
        ·have:B.take n=[]:=by rw[<-ZQ];omega
         have e2:B.drop n=B:=by rw[this] at eB;simpa using eB.symm
         rw[this,e2]
         conv=>lhs;rw[eA]
         simp
      ·rintro _ rfl;refine Er (λx=>∃C1,x=P++C1++A.drop d++B.drop n++S/\C1.Perm (A.take d++B.take n)/\(xB p (A.take d)->xB p (B.take n)->xB p C1)) (λk hk=>?_) ?_
       ·rw[bx];refine ⟨λh=>?_,λh=>hk _ ⟨A.take d++B.take n,by simp,.refl _,λZ h4=>?_⟩⟩
        ·simp only[bI,bz] at h;have e:P++A.take d++B.take n++A.drop d++B.drop n++S=P++A.take d++B.take n++(A.drop d++B.drop n++S):=by simp
         have r:=ih P (A.take d) (B.take n) (A.drop d++B.drop n++S) K s G (by rw[<-Vi];omega) (by rw[<-Vi];omega) (by rw[<-e];simp;omega) (λx hx=>M x (by
          rw[<-e] at hx;simp only[ld] at hx ⊢;rcases hx with ((((h | h) | h) | h) | h) | h
          ·exact .inl (.inl (.inl h))
          ·exact .inl (.inl (.inr (Ky h)))
          ·exact .inl (.inr (Ky h))
          ·exact .inl (.inl (.inr (ZS h)))
          ·exact .inl (.inr (ZS h))
          ·exact .inr h)) (by omega) ha (by omega) (by omega)
         rw[<-e] at r;refine r.bind λr T=>?_;obtain ⟨C,rfl,Z,h4⟩:=T;have h5:=Z.length_eq;simp only[yZ] at h5;rw[pd (by simp;omega)];exact hk _ ⟨C,by simp,Z,h4⟩
        ·simp only[bI,bz,yBS] at h;rcases h with h | h
         ·have:A.take d=[]:=by rw[<-ZQ];omega
          rw[this];exact h4
         ·have:B.take n=[]:=by rw[<-ZQ];omega
          rw[this,Ec];exact Z
       ·rintro _ ⟨C1,rfl,g1,g2⟩;have lC:=g1.length_eq;simp only[yZ] at lC;have aa:∀C2:List Int,C2.Perm (A.drop d++B.drop n)->xB p A->xB p B->∀u∈C1,∀v∈C2,BJ p u v:=λC2 g3 sA sB u hu v M=>by
         have hu:=ld.1 (g1.mem_iff.1 hu);have M:=ld.1 (g3.mem_iff.1 M);rcases hu with hu | hu <;> rcases M with M | M
         ·have:=NJ.1 (eA▸sA:xB p (A.take d++A.drop d));exact this.2.2 u hu v M
         ·rcases f1 with f1 | f1 | f1
          ·subst f1;simp at hu
          ·rw[yB7 f1] at M;simp at M
          ·exact EP sB (.inr (Ek sA la (.inr f1) u hu)) v M
         ·rcases f2 with f2 | f2 | f2
          ·rw[f2] at hu;simp at hu
          ·rw[yB7 f2] at M;simp at M
          ·exact EP sA (.inr (Ek sB lb (.inr f2) u hu)) v M
         ·have:=NJ.1 (eB▸sB:xB p (B.take n++B.drop n));exact this.2.2 u hu v M
        have af:∀C2:List Int,C2.Perm (A.drop d++B.drop n)->(C1++C2).Perm (A++B):=λC2 g3=>by
         refine (List.Perm.append g1 g3).trans ?_
         conv=>rhs;rw[eA,eB]
         simp only[AX];refine List.Perm.append_left _ ?_;rw[<-AX,<-AX (A.drop d)];exact List.Perm.append_right _ yCi
        rw[bx];refine ⟨λh=>?_,λh=>bg.2 ⟨C1++(A.drop d++B.drop n),by simp,af _ (.refl _),λsA sB=>?_⟩⟩
        ·simp only[bI,bz] at h;have e:P++C1++A.drop d++B.drop n++S=(P++C1)++A.drop d++B.drop n++S:=rfl;have r:=ih (P++C1) (A.drop d) (B.drop n) S G ((G+z-s:Nat):Int) Q (by rw[<-Vi];omega) (by rw[<-Vi];omega) (by simp;omega) (λx hx=>M x (by
          simp only[ld] at hx ⊢;rcases hx with (((h | h) | h) | h) | h
          ·exact .inl (.inl (.inl h))
          ·rcases ld.1 (g1.mem_iff.1 h) with h | h
           ·exact .inl (.inl (.inr (Ky h)))
           ·exact .inl (.inr (Ky h))
          ·exact .inl (.inl (.inr (ZS h)))
          ·exact .inl (.inr (ZS h))
          ·exact .inr h)) (by omega) (by simp;omega) (by simp;omega) (by simp;omega)
         refine r.bind λr T=>?_;obtain ⟨C2,rfl,Z,h4⟩:=T;refine bg.2 ⟨C1++C2,by simp,af _ Z,λsA sB=>?_⟩;exact NJ.2 ⟨g2 (sA.Nq _) (sB.Nq _),h4 (sA.MC _) (sB.MC _),aa _ Z sA sB⟩
        ·refine NJ.2 ⟨g2 (sA.Nq _) (sB.Nq _),?_,aa _ (.refl _) sA sB⟩;simp only[bI,bz,yBS] at h;rcases h with h | h
         ·have:A.drop d=[]:=by rw[<-ZQ];omega
          rw[this];exact sB.MC _
         ·have:B.drop n=[]:=by rw[<-ZQ];omega
          rw[this,Ec];exact sA.MC _
end Go.Plain
end
section
namespace Go.Plain
open Go.Abs
theorem rc{X R:Type}{b:(X->Option R)->X->Option R}{Q:R->Prop}{n:Nat}{x:X}(hn:0<n)(h:∀f,f=bF b (n-1)->bR (b f x) Q):bR (bF b n x) Q:=by obtain ⟨k,rfl⟩:∃k,n=k+1:=⟨n-1,by omega⟩;exact h _ rfl
theorem NV{p:List K3}{N:Nat}{P A S:List Int}{a E:Int}(ha:a=P.length)(hE:E=P.length+A.length)(hN:1100<=N)(hl:(P++A++S).length<=1000)(O:∀x∈P++A++S,Sb p x) :
  bR (bF (λf8 (Q : Int × List Int)=>
         if (decide (Q.1<E))=true then
          bF (λad (d:Int×List Int)=>
           jn (λ(af:Bool)=>
            if af=true then
             (aE d.2 (i64.wrap (d.1-1))).bind λR=>
             (aE d.2 d.1).bind λak=>
             (aE d.2 d.1).bind λa6=>
             (aE (d.2.set d.1.toNat R) (i64.wrap (d.1-1))).bind λa7=>
             ad ((i64.wrap (d.1-1)),((d.2.set d.1.toNat R).set (i64.wrap (d.1-1)).toNat ak))
            else
             f8 ((i64.wrap (Q.1+1)),d.2)) λW=>
           if (decide (d.1 > a))=true then
           (aE d.2 d.1).bind λan=>
           (aE d.2 (i64.wrap (d.1-1))).bind λav=>
           (
            (aE p an).bind λt=>
            (aE p av).bind λG=>
            (ZK N ([t.1,t.2.1,t.2.2]:List Int) ([G.1,G.2.1,G.2.2]:List Int)).bind λax=>
            some ax).bind λa0=>
           W (decide (a0<0))
           else
           W false) N (Q.1,Q.2)
         else
          some Q.2) N ((i64.wrap (a+1)),P++A++S)) λr=>∃C,r=P++C++S/\C.Perm A/\xB p C:=by
 have a1:=hl;simp only[yZ] at a1;rw[Bg (x:=a+1) (y:=a+1) rfl (by omega) (by omega)];refine lpM (I:=λx=>∃C T,x.2=P++C++T++S/\(C++T).Perm A/\xB p C/\x.1=a+(if A=[] then 1 else (C.length:Int))/\(A≠[]->0<C.length)) (m:=λx=>(E+1-x.1).toNat) (λx f hI hr=>?_) ?_ (by simp;omega)
 ·obtain ⟨i,row⟩:=x;obtain ⟨C,T,rfl,hp,hs,hi,h0⟩:=hI;simp only at hi hr ⊢;have n:=hp.length_eq;simp only[yZ] at n;by_cases hA:A=[]
  ·subst hA;simp only[if_true,yBD] at hi n hE;rw[if_neg (by simp;omega),bg];have hC:C=[]:=by rw[<-ZQ];omega
   have hT:T=[]:=by rw[<-ZQ];omega
   subst hC hT;exact ⟨[],by simp,.refl _,hs⟩
  ·rw[if_neg hA] at hi;have a8:=h0 hA;cases T with
   |nil=>simp only[yBD] at n;rw[if_neg (by simp;omega),bg];exact ⟨C,by simp,by simpa using hp,hs⟩
   |cons y T=>
    simp only[Fa] at n;rw[if_pos (by simp;omega)];refine lpM (I:=λz=>∃U V,z=(a+(U.length:Int),P++U++y::(V++T++S))/\U++V=C/\∀v∈V,BJ p y v) (m:=λz=>(z.1-a).toNat) (λz g hz a2=>?_) ⟨C,[],by rw[hi];simp,by simp,by simp⟩ (by simp;omega);obtain ⟨U,V,rfl,e,X⟩:=hz;have K:=HE List.length e;simp only[yZ] at K;have M:∀x∈P++U++y::(V++T++S),Sb p x:=λx Y=>O x (by
     simp only[ld,gu] at Y ⊢;have o:x∈U\/x∈V\/x=y\/x∈T->x∈A:=λh=>hp.mem_iff.1 (by
      rw[<-e];simp only[ld,gu];rcases h with h | h | h | h
      ·exact .inl (.inl h)
      ·exact .inl (.inr h)
      ·exact .inr (.inl h)
      ·exact .inr (.inr h))
     rcases Y with (h | h) | h | (h | h) | h
     ·exact .inl (.inl h)
     ·exact .inl (.inr (o (.inl h)))
     ·exact .inl (.inr (o (.inr (.inr (.inl h)))))
     ·exact .inl (.inr (o (.inr (.inl h))))
     ·exact .inl (.inr (o (.inr (.inr (.inr h)))))
     ·exact .inr h)
    have done:(∀u∈U,BJ p u y)->bR (f (i64.wrap (i+1),P++U++y::(V++T++S))) (λr=>∃C,r=P++C++S/\C.Perm A/\xB p C):=λhu=>by
     rw[Bg (x:=i+1) rfl (by omega) (by omega)];refine hr _ ⟨U++y::V,T,by simp,?_,?_,?_,λ_=>by simp;omega⟩ (by simp;omega)
     ·refine List.Perm.trans ?_ hp;rw[<-e];have:(U++y::V).Perm (U++V++[y]):=by
       rw[AX];exact List.Perm.append_left _ (yCi (l₁:=[y]))
      have:=this.append_right T;simpa using this
     ·have Z:=NJ.1 (e▸hs:xB p (U++V));refine NJ.2 ⟨Z.1,yBw.2 ⟨X,Z.2.1⟩,λu h v O=>?_⟩;rcases gu.1 O with rfl | O
      ·exact hu u h
      ·exact Z.2.2 u h v O
     ·rw[if_neg hA];simp;omega
    refine Er (λx=>(x=true->∃b v,U=b++[v]/\BJ p y v)/\(x=false->∀u∈U,BJ p u y)) (λk hk=>?_) (λx Y=>?_)
    ·rw[bx];refine ⟨λh=>?_,λh=>hk _ ⟨by simp,λ_ u hu=>?_⟩⟩
     ·simp at h;rcases List.eq_nil_or_concat U with rfl | ⟨b,v,rfl⟩
      ·simp at h
      simp only[yCh] at M hk h ⊢;simp only[yCh,yZ,Fa,yBD] at K;have w:i64.wrap (a+((b++[v]).length:Nat)-1)=((P++b).length:Nat):=Bg (by simp;omega) (by simp;omega) (by simp;omega);have e1:P++(b++[v])++y::(V++T++S)=(P++b)++v::(y::(V++T++S)):=by simp
      rw[w,dQ (by simp;omega),aw,show aE (P++(b++[v])++y::(V++T++S)) ((P++b).length:Nat)=some v from by rw[e1];exact dQ rfl,wh];refine (CL (by omega) (M y (by simp)) (M v (by simp))).bind λr aa=>hk _ ⟨λh=>⟨b,v,rfl,(aa.1 (by simpa using h)).le⟩,λh u hu=>?_⟩;have ab:BJ p v y:=λg=>by have:=aa.2 g;simp at h;omega
      simp only[yCh] at e;have Z:=NJ.1 (e▸hs:xB p ((b++[v])++V));have h2:=NJ.1 Z.1;rcases ld.1 hu with hu | hu
      ·exact (h2.2.2 u hu v (by simp)).trans ab
      ·simp at hu;subst hu;exact ab
     ·simp at h;have:U=[]:=by rw[<-ZQ];omega
      subst this;simp at hu
    ·rw[bx];refine ⟨λh=>?_,λh=>done (Y.2 (by simpa using h))⟩;obtain ⟨b,v,rfl,a5⟩:=Y.1 h;simp only[yZ,Fa,yBD] at K;have w:i64.wrap (a+((b++[v]).length:Nat)-1)=((P++b).length:Nat):=Bg (by simp;omega) (by simp;omega) (by simp;omega);have e1:P++(b++[v])++y::(V++T++S)=(P++b)++v::(y::(V++T++S)):=by simp
     have e3:P++(b++[v])++v::(V++T++S)=(P++b)++v::(v::(V++T++S)):=by simp
     simp only;rw[w,show aE (P++(b++[v])++y::(V++T++S)) ((P++b).length:Nat)=some v from by rw[e1];exact dQ rfl,wh,dQ (by simp;omega),wh,wh,jD (by simp;omega),e3,dQ (by simp),wh,jD (by simp)];refine a2 _ ⟨b,v::V,by simp;omega,by rw[<-e];simp,λu hu=>?_⟩ (by simp;omega);rcases gu.1 hu with rfl | hu
     ·exact a5
     ·exact X u hu
 ·refine ⟨A.take 1,A.drop 1,by simp only[AX];rw[<-AX (A.take 1),J_],by rw[J_],?_,?_,?_⟩
  ·cases A with
   |nil=>exact .nil
   |cons=>simp[xB]
  ·cases A <;> simp
  ·intro (h:A≠[]);have:=Vi.2 h;simp;omega
def Ud(n:Nat):List Int:=(List.range n).map λ(i:Nat)=>(i:Int)
theorem qK(n:Nat):(Ud n).length=n:=by simp[Ud]
theorem upn_get{n i:Nat}(h:i<n):(Ud n)[i]'(by rw[qK];exact h)=(i:Int):=by simp[Ud]
theorem Ri{p:List K3}{x:Int}(h:x∈Ud p.length):Sb p x:=by simp only[Ud,iP,yBZ] at h;obtain ⟨i,hi,rfl⟩:=h;exact ⟨by omega,by omega⟩
theorem Sv{α:Type}{z:α}{n:Nat}(h:n<=1000):EW z (n:Int) (n:Int)=some (List.replicate n z):=by unfold EW;simp;omega
theorem NM{N:Nat}{p:List K3}(hp:p.length<40)(hN:2000<=N):bR (zeS N p) λr=>r.Perm (Ud p.length)/\xB p r:=by
 unfold zeS;rw[Sv (by omega),aw];refine jj p.length (λi x=>x=((i:Int),(Ud p.length).take i++List.replicate (p.length-i) 0)) (λi x f hi n b=>?_) (λx f n=>?_) (by simp) (by omega)
 ·subst n;have hl:((Ud p.length).take i).length=i:=by simp[qK];omega
  have e:List.replicate (p.length-i) (0:Int)=0::List.replicate (p.length-(i+1)) 0:=by rw[show p.length-i=(p.length-(i+1))+1 by omega,List.replicate_succ]
  simp only;rw[if_pos (by simp;omega),e,dQ (by rw[hl]),wh,jD (by rw[hl]),bU (by omega)];refine b _ (by rw[List.take_add_one,eK (by rw[qK];exact hi),upn_get hi];simp)
 ·subst n;rw[yBN (by rw[qK];exact cO _),yC3,List.replicate_zero,Ec];simp only;rw[if_neg (by simp),qK];generalize n:Ud p.length=x;have z:x.length=p.length:=by rw[<-n,qK]
  have d:∀a∈x,Sb p a:=λa g=>Ri (by rw[n];exact g)
  suffices key:∀o:Option (List Int),(bR o λr=>r.Perm x/\xB p r)->bR ((o.bind λK=>some K).bind λu=>Bq p.length u.length<|some u) λr=>r.Perm x/\xB p r by
   refine key _ ?_;have M:i64.wrap (20+20)=40:=rfl;have O:i64.wrap (2 * 20)=40:=rfl;have Q:i64.wrap (20 * 2)=40:=rfl;have R:i64.wrap (0+20)=20:=rfl;by_cases aa:p.length<20
   ·refine rc (by omega) λf y=>?_;simp only;rw[if_neg (by simp;omega)];have X:=NV (p:=p) (N:=N) (P:=[]) (A:=x) (S:=[]) (a:=0) (E:=p.length) rfl (by simp;omega) (by omega) (by simp;omega) (by simpa using d);rw[Aj,Ec] at X;refine X.bind λr b=>?_;obtain ⟨C,rfl,h,t⟩:=b;rw[pd (by simpa using h.length_eq.symm)];refine rc (by omega) λf y=>?_;rw[if_neg (by simp;omega),bg];exact ⟨by simpa using h,by simpa using t⟩
   ·refine rc (by omega) λf y=>?_;simp only;have v:x=x.take 20++x.drop 20:=(J_ _ _).symm;have Y:(x.take 20).length=20:=by simp;omega
    have Z:(x.drop 20).length=p.length-20:=by simp;omega
    rw[if_pos (by simp;omega)];have r1:=NV (p:=p) (N:=N) (P:=[]) (A:=x.take 20) (S:=x.drop 20) (a:=0) (E:=20) rfl (by rw[Y];simp) (by omega) (by simp;omega) (by simpa using d);rw[Aj,<-v] at r1;refine r1.bind λr b=>?_;obtain ⟨C,rfl,h,t⟩:=b;have T:C.length=20:=by rw[h.length_eq,Y]
    rw[Aj,pd (by simp;omega),M,y];refine rc (by omega) λf y=>?_;simp only;rw[if_neg (by simp;omega)];have U:∀a∈C++x.drop 20,Sb p a:=λa g=>d a (by
     rcases ld.1 g with g | g
     ·exact Ky (h.mem_iff.1 g)
     ·exact ZS g)
    have r2:=NV (p:=p) (N:=N) (P:=C) (A:=x.drop 20) (S:=[]) (a:=20) (E:=p.length) (by rw[T];rfl) (by rw[T,Z];omega) (by omega) (by simp;omega) (by simpa using U);rw[Ec] at r2;refine r2.bind λr b=>?_;obtain ⟨D,rfl,h3,h4⟩:=b;have lD:D.length=p.length-20:=by rw[h3.length_eq,Z]
    have m:(C++D).Perm x:=by rw[v];exact List.Perm.append h h3
    rw[Ec,pd (by simp;omega)];refine rc (by omega) λf2 W=>?_;simp only;by_cases ab:p.length=20
    ·rw[if_neg (by simp;omega),bg];have:D=[]:=by rw[<-ZQ];omega
     subst this;exact ⟨m,by simpa using t⟩
    ·rw[if_pos (by simp;omega),O];refine rc (by omega) λf3 ad=>?_;simp only;rw[if_neg (by simp;omega),R];refine Er (λr=>r.Perm x/\xB p r) (λk hk=>?_) (λr b=>?_)
     ·rw[if_pos (by simp;omega)];have r3:=Ll (p:=p) N [] C D [] 0 20 p.length (by rw[<-Vi];omega) (by rw[<-Vi];omega) (by simp;omega) (λa g=>d a (m.mem_iff.1 (by simpa using g))) (by omega) rfl (by rw[T];rfl) (by simp;omega);rw[Aj,Ec] at r3;refine r3.bind λr b=>?_;obtain ⟨G,rfl,h5,h6⟩:=b;have lG:=h5.length_eq;rw[pd (by simp at lG ⊢;omega)];exact hk _ ⟨by simpa using h5.trans m,by simpa using h6 t h4⟩
     ·rw[Q,W];refine rc (by omega) λf4 af=>?_;simp only;rw[if_neg (by simp;omega),bg];exact b
  intro o ⟨r,ho,h,t⟩;rw[ho,aw,aw,pd (by rw[h.length_eq,z])];exact bg.2 ⟨h,t⟩
theorem Jo{s:bm}(hs:lX s)(k:br s):OW 5000 s=some true:=by
 obtain ⟨r,e,h⟩:=qq s hs
 simp_all
theorem Gn(x a b:Int):∃v,ZR 5000 x a b=some v:=by
 unfold ZR;split
 ·simp_all
 ·split <;> exact ⟨_,rfl⟩
theorem Lo(x:Int):∃v,gC 5000 x=some v:=by
 obtain ⟨r,e⟩:=Gn x 0 1099511627776;unfold gC MW
 simp_all
theorem UU{s:bm}(hs:lX s)(k:br s)(j:aM)(d:Int)(use:List Int):∃v,Cp 5000 s j d use=some v:=by
 have g:∃v,zJ 5000 d j.cI=some v:=by unfold zJ;split <;> exact ⟨_,rfl⟩
 obtain ⟨ag,o⟩:=g;obtain ⟨i,p⟩:=Gn j.aL 0 64;unfold Cp xM;rw[Jo hs k,aw,if_neg (by simp)];simp only[fA,o,p,aw];have m:∀q:Int,∃v:Int×Int×Int×Int,(if ((decide (j.cu≥0))&&(decide (j.cu<(use.length:Int))))=true then
    (aE use j.cu).bind λr=>(gC 5000 r).bind λt=>some ((i64.wrap (s.am.kF * ag)),(i64.wrap (s.am.cT * i)),(i64.wrap (s.am.fC * q)),(i64.wrap (s.am.bL * t)))
   else some ((i64.wrap (s.am.kF * ag)),(i64.wrap (s.am.cT * i)),(i64.wrap (s.am.fC * q)),(i64.wrap (s.am.bL * 0))))=some v:=λq=>by
  by_cases n:((decide (j.cu≥0))&&(decide (j.cu<(use.length:Int))))=true
  ·have a:=n;simp only[bI,bz] at a;obtain ⟨h,e⟩:=FF (l:=use) a.1 a.2;obtain ⟨f,u⟩:=Lo (use[j.cu.toNat]'h)
   simp_all
  ·rw[if_neg n];simp_all
 by_cases hq:((decide (j.Queue≥0))&&(decide (j.Queue<(s.aq.length:Int))))=true
 ·have b:=hq;simp only[bI,bz] at b;obtain ⟨h,e⟩:=FF (l:=s.aq) b.1 b.2;rw[if_pos hq,e,aw];obtain ⟨v,ev⟩:=m (s.aq[j.Queue.toNat]'h).fC
  simp_all
 ·rw[if_neg hq];obtain ⟨v,ev⟩:=m 0
  simp_all
def UE(s:bm)(n:ke)(j:aM):K3:=(qk 5000 s j n).getD (0,0,0)
theorem keyP_ok{s:bm}(hs:lX s)(k:br s)(n:ke)(j:aM):qk 5000 s j n=some (UE s n j):=by
 have:∃v,qk 5000 s j n=some v:=by
  obtain ⟨v,e⟩:=UU hs k j n.aX n.kH;unfold qk
  simp_all
 grind [UE]
theorem SL{s:bm}(hs:lX s)(k:br s)(n:ke){L:List aM}(hL:∀j∈L,gn j)(hl:L.length<40) :
  bR (zeI 5000 L s n) λr=>r.Perm L:=by
 unfold zeI;rw[Jo hs k,aw,if_neg (by simp),Sv (by omega),aw];refine jj L.length (λi x=>x=((i:Int),(L.map (UE s n)).take i++List.replicate (L.length-i) (0,0,0))) (λi x f hi a b=>?_) (λx f a=>?_) (by simp) (by omega)
 ·subst a;have hl:((L.map (UE s n)).take i).length=i:=by grind
  have e:List.replicate (L.length-i) ((0,0,0):K3)=(0,0,0)::List.replicate (L.length-(i+1)) (0,0,0):=by rw[show L.length-i=(L.length-(i+1))+1 by omega,List.replicate_succ]
  simp only;rw[if_pos (cR hi),bY hi,aw,keyP_ok hs k,aw,e,dQ (by rw[hl]),wh,jD (by rw[hl]),bU (by omega)]
  grind [List.take_add_one]
 ·subst a;rw[yBN (by simp),yC3,List.replicate_zero,Ec];simp only;have z:∀x:aM,EW x 0 (L.length:Int)=some []:=λx=>by
   unfold EW
   grind
  rw[if_neg (by simp),z,aw];refine (NM (N:=5000) (p:=L.map (UE s n)) (by simp_all) (by omega)).bind λr b=>?_;obtain ⟨hp,hw⟩:=b;rw[wX] at hp;have g:r.length=L.length:=by rw[hp.length_eq,qK]
  have h:∀x∈r,0<=x/\x<L.length:=λx a=>by
   have:=Ri (p:=L.map (UE s n)) (x:=x) (by grind)
   grind [Sb]
  let J:Int->aM:=λx=>L.getD x.toNat { Id:=0,cu:=0,Queue:=0,aL:=0,ay:=({ bA:=0,Mem:=0,bE:=0,bG:=0 }:aD),aO:=0,aF:=[],State:=0,Ok:=false,cG:=false,aJ:=0,cI:=0,Start:=0,End:=0,Array:=0 }
  have m:∀x∈r,aE L x=some (J x):=λx a=>by grind [FF]
  refine jj r.length (λi x=>x=((i:Int),(r.map J).take i)) (λi x f hi a b=>?_) (λx f a=>?_) (by simp) (by omega)
  ·subst a;have o:gn (J r[i]):=by
    grind [FF]
   simp only;rw[if_pos (cR hi),bY hi,aw,m _ (bC hi),aw];have t:zaD 5000 (J r[i]).aF=some (J r[i]).aF:=FR (by grind [gn.mO]);rw[t,aw,Bi (by grind),aw,bU (by omega)];refine b _ (by rw[List.take_add_one,eK (by grind)];simp)
  ·subst a;simp only;rw[if_neg (by simp),bg,yBN (by simp)];have d:(Ud L.length).map J=L:=by
    apply yCq
    ·simp[Ud]
    grind [Ud]
   grind
section
variable{l:List aM}(hl:l.length<=300)(hs:bW l)
def DepP(l:List aM)(d:Hg):Prop:=∃j∈l,j.Id=d.aW/\(j.State=5\/j.State=6)/\(d.Ok=true->j.State=5/\j.Ok=true)
include hl in
theorem find_d(id:Int):bR (vp 5000 id l) λr=>(r.2=false/\∀j∈l,j.Id≠id)\/∃(i:Nat)(h:i<l.length),l[i].Id=id/\r=(l[i],true):=by
 unfold vp;refine wi l (λ_ j=>j.Id≠id) (λi f h _ a=>?_) (λf h=>?_) (by omega)
 ·simp only[cR h,if_true,bY h,aw,bU (show i<1000000 by omega),bx,bg,nh]
  grind
 ·simp only[eL,bX,cr,bg];exact .inl ⟨trivial,CI (A:=λ(j:aM)=>j.Id≠id) h⟩
include hl hs in
theorem Vx{d:Hg}{i:Nat}(hi:i<l.length)(e:l[i].Id=d.aW):DepP l d↔(l[i].State=5\/l[i].State=6)/\(d.Ok=true->l[i].State=5/\l[i].Ok=true):=by
 constructor
 ·rintro ⟨j,hj,h1,h2,h3⟩;obtain ⟨t,a,rfl⟩:=iW hj;have:=hs.inj a hi (h1.trans e.symm)
  simp_all
 ·rintro ⟨h2,h3⟩;exact ⟨l[i],bC hi,e,h2,h3⟩
include hl hs in
theorem met_ok{j:aM}(m:j.aF.length<=10):gh (qc 5000 j l) (∀d∈j.aF,DepP l d):=by
 unfold qc;refine Od j.aF (DepP l) _ (λh=>h) (λi f hi Q n b=>?_) (λf h=>?_) (by omega)
 ·rw[if_pos (cR hi),bY hi,aw];refine (find_d hl _).bind λr a=>?_;rw[fA];rcases a with ⟨a,hn⟩ | ⟨t,g,e,rfl⟩
  ·rw[if_pos (by simp[a])];show bR (if true=true then _ else _) _;rw[if_pos rfl,bg];exact b λ⟨j,hj,e,_⟩=>hn j hj e
  ·have k:=Vx hl hs g e;unfold DS Vk;simp only[aw];rw[if_neg (by simp),bU (show i<1000000 by omega)]
   grind [bg]
 ·simp only[eL,bX,cr];exact rH h
def Ax(l:List aM)(j:aM):Bool:=(j.State == 1)&&(qc 5000 j l).getD false
theorem Zt{T:Type}(st:T->Int)(met:T->Option Bool):∀l:List T,(∀a∈l,∃b,met a=some b)->Dn st met l=some (l.filter λa=>(st a == 1)&&(met a).getD false)
 |[],_=>rfl
 |a :: l, h => by
  have ih:=Zt st met l λx d=>h x (nS _ d);obtain ⟨b,e⟩:=h a (rJ ..);unfold Dn
  grind
include hl hs in
theorem Sy(d:∀j∈l,j.aF.length<=10):fe 5000 l=some (l.filter (Ax l)):=by unfold fe ZA;rw[show Nat.ble l.length 1000000=true from Nat.ble_eq▸(by omega)];exact Zt _ _ l λa h=>by obtain ⟨b,e,_⟩:=met_ok hl hs (d a h);simp_all
end
theorem Rt{R:Type}{K:List aM->Option R}:∀(r b:List aM),b.length+r.length<=1000 ->
  ZZ (λ(d:aM) (e:List aM) f=>
  (cB e ([d]:List aM)).bind λg=>
  f g) K r b=K (b++r)
 |[],b,_=>by simp[ZZ]
 |a :: r, b, h => by simp only[Fa] at h;unfold ZZ;rw[Bi (by grind),aw,Rt r _ (by grind)];simp
theorem KT{R:Type}{b:(Int×Int->Option R)->Int×Int->Option R}{Q:R->Prop}{l:List aM}(hl:l.length<=300)(P:aM->Bool)
  (hs:∀f (c i:Nat) (h:i<l.length),c<=i->bR (f (((if P l[i] then c+1 else c:Nat):Int),((i+1:Nat):Int))) Q->bR (b f ((c:Int),(i:Int))) Q)
  (e:∀f,bR (b f ((l.countP P:Int),(l.length:Int))) Q):bR (bF b 5000 (0,0)) Q:=by
 refine jj l.length (λi x=>x=(((l.take i).countP P:Int),(i:Int))) (λi x f hi a d=>?_) (λx f a=>?_) (by simp) (by omega)
 ·subst a;refine hs f _ i hi (kj List.countP_le_length (by grind)) (d _ ?_)
  grind [List.take_add_one]
 simp_all
def hasB(x:Int):Bool:=(x == 3) || (x == 4)
theorem Ti{l:List aM}(hl:l.length<=300)(q:Int):lr 5000 l q=some (l.countP λj=>(j.Queue == q)&&hasB j.State:Int):=by
 unfold lr;apply bR.eq;rw[jV];refine KT hl (λj=>(j.Queue == q)&&hasB j.State) (λf c i hi b a=>?_) (λf=>?_)
 ·simp only[fA];rw[if_pos (cR hi),bY hi,aw,bU (show i<1000000 by omega),bU (show c<1000000 by omega)];unfold TG;by_cases h:(l[i].Queue == q)=true
  ·rw[if_pos h,aw,aw];simp only[h,yC7] at a;show bR (if hasB l[i].State=true then _ else _) _
   grind
  simp_all
 ·simp only;rw[if_neg (by simp),bg,bg]
theorem of_eq{l:List aM}(hl:l.length<=300)(q u:Int):yN 5000 l q u=some (l.countP λj=>((j.Queue == q)&&(j.cu == u))&&hasB j.State:Int):=by
 unfold yN;apply bR.eq;rw[jV];refine KT hl (λj=>((j.Queue == q)&&(j.cu == u))&&hasB j.State) (λf c i hi b a=>?_) (λf=>?_)
 ·simp only[fA];rw[if_pos (cR hi),bY hi,aw,bU (show i<1000000 by omega),bU (show c<1000000 by omega)];unfold TG;by_cases h:((l[i].Queue == q)&&(l[i].cu == u))=true
  ·rw[if_pos h,aw,aw];simp only[h,yC7] at a;show bR (if hasB l[i].State=true then _ else _) _
   grind
  grind
 ·simp only;rw[if_neg (by simp),bg,bg]
theorem FE{s:bm}(hs:lX s)(k:br s){l:List aM}(hl:l.length<=300)(j:aM):∃b,lO 5000 s l j=some b:=by
 unfold lO tN;by_cases hq:0<=j.Queue/\j.Queue<s.aq.length
 ·obtain ⟨a,e⟩:=FF (l:=s.aq) hq.1 hq.2;rw[if_pos (by simp_all),Jo hs k,aw,aw,if_neg (by simp),e,aw,Ti hl,aw,of_eq hl,aw];split <;> exact ⟨_,rfl⟩
 ·rw[if_neg (by simp_all),aw,if_pos (by simp)]
  simp_all
end Go.Plain
end
