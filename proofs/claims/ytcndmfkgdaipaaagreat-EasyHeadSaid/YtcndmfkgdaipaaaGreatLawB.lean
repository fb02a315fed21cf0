/- Lemmas. -/
import Derived.Test.YtcndmfkgdaipaaaGreatLawA
set_option linter.all false
open Go.IntKind (i64 u64)
section
namespace Go.Plain
open Go.Abs
theorem Zi{α:Type}(z:α){n:Nat}(h:n<=1000000):GH z (n:Int) (n:Int)=some (List.replicate n z):=by
 unfold GH
 grind
theorem UN(v:aE)(need:aE):fy v (mulR 0 need)=v:=dX λc=>by rw[Cz,CH];omega
theorem Ih(v a b:aE):fy (fy v a) b=fy v (BT a b):=dX λc=>by simp only[Cz,wQ];omega
theorem RZ.none{l:List bP}(hs:dL l)(a b:Int)(need:aE):RZ l a b (mulR 0 need) l:=
 ⟨hs,by omega,λ_ _=>rfl,λt v h=>by rw[UN,ite_self];exact h⟩
structure Ee (nodes:List (List bP)) (now:Int) (L:Nat):Prop where
 each:∀k (h:k<nodes.length),dL nodes[k]/\nodes[k].length<=L
 first:∀k (h:k<nodes.length) (h':0<nodes[k].length),nodes[k][0].At=now
theorem By{l:List cM}{n:Int}(h:∀y∈l,y.Node≠n):dO l n=0:=by
 induction l with
 |nil=>simp[dO]
 |cons y l ih=>
  have a:=ih λz hz=>h z (pp _ hz);simp only[dO,sy,yCn] at a ⊢
  simp_all
theorem B_{l:List cM}{n:Int}(h:bo l n){i j:Nat}(a:i<j)(b:j<l.length):l[i].Node<l[j].Node:=by
 induction j with
 |zero=>omega
 |succ j ih=>
  have s:=(h (j+1) b).up
  grind [sm]
theorem Ky{l:List cM}{n:Int}(h:bo l n){i:Nat}(hi:i<l.length):dO l l[i].Node=l[i].aK:=by
 have e:=SW (l:=l.take (i+1)) (m:=l.drop (i+1)) l[i].Node;have d:dO (l.take i) l[i].Node=0:=By λy a=>by obtain ⟨j,b,rfl⟩:=KW.1 a;rw[Dj] at b;rw[RW];have:=B_ h (show j<i by omega) hi;omega
 have f:dO (l.drop (i+1)) l[i].Node=0:=By λy a=>by obtain ⟨j,b,rfl⟩:=KW.1 a;rw[yCb] at b;rw[yCo];have:=B_ h (show i<i+1+j by omega) (by omega);omega
 rw[OJ,oa hi,d,f,if_pos rfl] at e;omega
theorem Rc{l:List cM}{n:Int}(h:bo l n){i:Nat}(hi:i<l.length):dO (l.take i) l[i].Node=0:=By λy a=>by obtain ⟨j,b,rfl⟩:=KW.1 a;rw[Dj] at b;rw[RW];have:=B_ h (show j<i by omega) hi;omega
theorem C_{d:List (List bP)}{g:Int}{L:Nat}(hL:L<=900)(w:Ee d g L)(hn:d.length<=40){a b:Int}{l:List cM}{need:aE}(hl:bo l d.length)(S:l.length<=300)(G:aO need)
  (h0:g<=a) (m:a<b) (hb:b<=281474976710656) (n:∀k (h:k<d.length) t v,a<=t->t<b->zc d[k] t v->s_ (mulR (dO l k) need) v) :
  bS (zbe 5000 d a b l need) λr=>r.2=0/\r.1.length=d.length/\∀k (h:k<d.length) (K:k<r.1.length),RZ d[k] a b (mulR (dO l k) need) r.1[k]:=by
 unfold zbe;rw[Zi _ (by omega),ay];have node:∀i (hi:i<l.length),∃k:Nat,l[i].Node=(k:Int)/\k<d.length:=λi hi=>by obtain ⟨N,U,_⟩:=hl.mem _ (bH hi);exact ⟨l[i].Node.toNat,by omega,by omega⟩
 refine jC l.length (λi x=>∃T:List (List bP),x=((i:Int),T)/\T.length=l.length/\∀j (hj:j<l.length) (O:j<T.length) (k:Nat) (hk:k<d.length),j<i->l[j].Node=(k:Int)->RZ d[k] a b (mulR l[j].aK need) T[j]) (λi x f hi e P=>?_) (λx f e=>?_)
  ⟨_,rfl,List.length_replicate ..,λj _ _ _ _ h=>by omega⟩ (by omega)
 ·obtain ⟨T,rfl,O,W⟩:=e;obtain ⟨k,o,hk⟩:=node i hi;have sh:=hl.mem _ (bH hi);dsimp only;rw[if_pos (cX hi),cf hi,ay];have y:dO l k=l[i].aK:=by grind [Ky]
  have fk:=n k hk;rw[y] at fk;obtain ⟨u,lk⟩:=w.each k hk;have f0:=w.first k hk u.ne;have Q:aO (mulR l[i].aK need):=by obtain ⟨v,p⟩:=zc.ex u (t:=a) (by omega);have:=fk a v (LU _) m p;refine wW.2 λc=>?_;have N:=this c;have U:=wW.1 (p.ok u) c;have X:=wW.1 G c;rw[CH] at N ⊢;have:=yCc (show 0<=l[i].aK by omega) X.1;omega
  refine (OW G ⟨sh.2.2.1,sh.2.2.2⟩).bind λr s=>?_;have z:=s.1.2 Q;rw[if_neg (by simp[z]),s.2 z,o,cf hk,Dw];refine (yW (by omega) u Q (by omega) m hb fk).bind λr2 Y=>?_;rw[cf (show i<T.length by omega),ay,if_neg (by simp_all),bY (show i<1000000 by omega),yBZ]
  grind
 ·obtain ⟨T,rfl,O,W⟩:=e;dsimp only;rw[if_neg (by simp)];refine jC l.length (λi x=>∃M:List (List bP),x=((i:Int),M)/\M.length=d.length/\∀k (h:k<d.length) (K:k<M.length),RZ d[k] a b (mulR (dO (l.take i) k) need) M[k]/\(dO (l.take i) k=0->M[k]=d[k])) (λi x f hi e P=>?_) (λx f e=>?_)
   ⟨_,rfl,rfl,λk h _=>⟨by simpa[dO] using RZ.none (w.each k h).1 a b need,λ_=>rfl⟩⟩ (by omega)
  ·obtain ⟨M,rfl,R,Z⟩:=e;obtain ⟨k,o,hk⟩:=node i hi;dsimp only;rw[if_pos (cX hi),cf hi,ay,cf (show i<T.length by omega),ay,o,cf (show k<M.length by omega),ay,bY (show i<1000000 by omega),yBZ];refine P _ ⟨_,rfl,by simp[R],λA h K=>?_⟩;have hb:=Rc hl hi;rw[o] at hb;by_cases q:k=A
   ·subst q;have E:(M.set k T[i])[k]=T[i]:=yBE _;rw[oa hi,hb,if_pos o,Int.zero_add,E];have sh:=hl.mem _ (bH hi)
    grind
   ·have E:(M.set k T[i])[A]=M[A]'(by omega):=yB2 q _;rw[oa hi,if_neg (by omega),Int.add_zero,E]
    simp_all
  ·obtain ⟨M,rfl,R,Z⟩:=e;dsimp only;rw[if_neg (by simp),bm]
   simp_all
def jB(F:List aE)(n:Int):aE:=(F[n.toNat]?).getD bU
def cV(F:List aE)(l:List Int)(need:aE):Int:=(l.map λn=>dM (jB F n) need).sum
def HU(left c:Int):Int:=if left<c then left else c
def plS(F:List aE)(need:aE)(x:Int×List cM)(n:Int):Int×List cM:=
 if HU x.1 (dM (jB F n) need)=0 then x else (x.1-HU x.1 (dM (jB F n) need),x.2++[{ Node:=n,aK:=HU x.1 (dM (jB F n) need) }])
def tq(F:List aE)(need:aE)(l:List Int)(many:Int):Int×List cM:=l.foldl (plS F need) (many,[])
def BS(F:List aE)(l:List Int)(many:Int)(need:aE):List cM×Bool:=if many<1\/cV F l need<many then ([],false) else ((tq F need l many).2,true)
theorem rL{F:List aE}{n:Int}(b:0<=n)(h:n<F.length):∃a:n.toNat<F.length,aC F n=some (jB F n)/\jB F n=F[n.toNat]'a:=by grind [Hb,jB]
structure kU (F:List aE) (l:List Int):Prop where
 yT:l.length<=300
 node:∀n∈l,0<=n/\n<F.length
 W_:∀n∈l,aO (jB F n)
section
variable{F:List aE}{l:List Int}{need:aE}(hP:kU F l)(hn:aO need)(hz:need≠bU)
include hP hn
theorem pd{n:Int}(h:n∈l):0<=dM (jB F n) need/\dM (jB F n) need<=64:=QS (hP.W_ n h) hn
theorem Xs:0<=cV F l need/\cV F l need<=64 * l.length:=by
 have:∀(m:List Int),(∀x∈m,x∈l)->0<=cV F m need/\cV F m need<=64 * m.length:=by
  intro m;induction m with
  |nil=>grind [cV]
  |cons x m ih=>
   intro h;have b:=ih λy a=>h y (pp _ a);have:=pd hP hn (h x (sV ..))
   grind [cV]
 simp_all
include hz
theorem Zs{n:Int}(h:n∈l):qM 5000 F n need=some (dM (jB F n) need):=by have hb:=hP.node n h;obtain ⟨_,e,_⟩:=rL hb.1 hb.2;unfold qM;rw[if_neg (by simp_all),e,ay,count (hP.W_ n h) hn hz,ay]
theorem zU{i:Nat}(hi:i<l.length):cV F (l.take (i+1)) need=cV F (l.take i) need+dM (jB F l[i]) need:=by grind [List.take_succ_eq_append_getElem,cV]
theorem Ae{i:Nat}:0<=cV F (l.take i) need/\cV F (l.take i) need<=64 * 300:=by
 have h:=Xs (F:=F) (l:=l.take i) (need:=need) ⟨by grind [kU.yT],λn h=>hP.node n (Px h),λn h=>hP.W_ n (Px h)⟩ hn
 grind [kU.yT]
theorem roomF_ok:rJ 5000 F l need=some (cV F l need):=by
 have hl:=hP.yT;unfold rJ;refine bS.eq (jC l.length (λi x=>x=(cV F (l.take i) need,(i:Int))) (λi x f hi a d=>?_) (λx f a=>?_) (by simp[cV]) (by omega))
 ·subst a;have c:=pd hP hn (bH hi);have b:=Ae hP hn hz (i:=i);dsimp only;rw[if_pos (cX hi),cf hi,ay,Zs hP hn hz (bH hi),ay,bY (show i<1000000 by omega),wr (by omega) (by omega)]
  grind [zU]
 ·subst a;dsimp only;rw[if_neg (by simp),bm,zp]
theorem pf_room:zev 5000 F l need=some (cV F l need):=by
 have hl:=hP.yT;unfold zev;refine bS.eq (jC l.length (λi x=>x=(cV F (l.take i) need,(i:Int))) (λi x f hi a d=>?_) (λx f a=>?_) (by simp[cV]) (by omega))
 ·subst a;have c:=pd hP hn (bH hi);have b:=Ae hP hn hz (i:=i);have hb:=hP.node _ (bH hi);obtain ⟨_,e,_⟩:=rL hb.1 hb.2;simp only[fN];rw[if_pos (cX hi)];simp only[cf hi,ay];rw[if_pos (by simp_all),if_pos (by simp_all),e,ay,CK (hP.W_ _ (bH hi)) hn hz,ay,bY (show i<1000000 by omega),wr (by omega) (by omega)]
  grind [zU]
 ·subst a;dsimp only;rw[if_neg (by simp),bm,zp]
theorem vD{i:Nat}(hi:i<l.length)(many:Int):tq F need (l.take (i+1)) many=plS F need (tq F need (l.take i) many) l[i]:=by grind [tq,List.take_succ_eq_append_getElem]
theorem Te{many:Int}(hm:1<=many/\many<=100000)(i:Nat):(0<=(tq F need (l.take i) many).1/\(tq F need (l.take i) many).1<=many)/\(tq F need (l.take i) many).2.length<=i:=by
 induction i with
 |zero=>grind [tq]
 |succ i ih=>
  by_cases hi:i<l.length
  ·have c:=pd hP hn (bH hi);rw[vD hP hn hz hi];unfold plS;by_cases q:HU (tq F need (l.take i) many).1 (dM (jB F l[i]) need)=0
   ·grind
   ·rw[if_neg q]
    grind [HU]
  grind [List.take_of_length_le]
theorem ME{many:Int}(i:Nat)(h:(tq F need (l.take i) many).1=0):(tq F need l many).2=(tq F need (l.take i) many).2:=by
 have:∀n,tq F need (l.take (i+n)) many=tq F need (l.take i) many:=by
  intro n;induction n with
  |zero=>rfl
  |succ n ih=>
   by_cases hi:i+n<l.length
   ·have c:=pd hP hn (bH hi);rw[<-yC7,vD hP hn hz hi,ih];unfold plS HU
    grind
   grind [List.take_of_length_le]
 have:=this l.length
 grind [List.take_of_length_le]
theorem place_ok{many:Int}(hm:many<=100000):zew 5000 F l many need=some (BS F l many need):=by
 have hl:=hP.yT;unfold zew BS;simp only[fN];by_cases g:many<1
 ·simp_all
 rw[if_neg (by simp_all),roomF_ok hP hn hz,ay];by_cases j:cV F l need<many
 ·simp_all
 rw[if_neg (by simp_all),if_neg (by omega)];refine bS.eq (jC l.length (λi x=>x=((tq F need (l.take i) many).1,(i:Int),(tq F need (l.take i) many).2)) (λi x f hi a b=>?_) (λx f a=>?_) (by simp[tq]) (by omega))
 ·subst a;have c:=pd hP hn (bH hi);have d:=Te hP hn hz (many:=many) ⟨by omega,hm⟩ i;have st:=vD hP hn hz hi many;dsimp only;rw[if_pos (cX hi),cf hi,ay,Zs hP hn hz (bH hi),ay,bz];refine ⟨λh=>?_,λh=>?_⟩
  ·grind [bm,ME]
  ·rw[bY (show i<1000000 by omega)];unfold plS at st;rw[bz];refine ⟨λh=>?_,λh=>?_⟩
   ·rw[if_pos (show HU _ _=0 by grind [HU])] at st
    simp_all
   ·rw[if_neg (show ¬HU _ _=0 by grind [HU])] at st;rw[Dt (by grind),ay];have e:i64.wrap ((tq F need (l.take i) many).1-(if (tq F need (l.take i) many).1<dM (jB F l[i]) need then (tq F need (l.take i) many).1 else dM (jB F l[i]) need))=(tq F need (l.take i) many).1-HU (tq F need (l.take i) many).1 (dM (jB F l[i]) need):=by
     grind [HU,wr]
    rw[e];exact b _ (by rw[st];rfl)
 ·subst a;dsimp only;rw[if_neg (by simp),bm,zp]
theorem XH{many:Int}(hm:many<=100000):zb7 5000 F l many need=some (BS F l many need):=by
 have hl:=hP.yT;unfold zb7 BS;simp only[fN];by_cases j:many<1
 ·simp_all
 rw[if_neg (by simp_all),pf_room hP hn hz,ay];by_cases k:cV F l need<many
 ·simp_all
 rw[if_neg (by simp_all),if_neg (by omega)];refine bS.eq (jC l.length (λi x=>x=((tq F need (l.take i) many).1,(i:Int),(tq F need (l.take i) many).2)) (λi x f hi b m=>?_) (λx f b=>?_) (by simp[tq]) (by omega))
 ·subst b;have c:=pd hP hn (bH hi);have d:=Te hP hn hz (many:=many) ⟨by omega,hm⟩ i;have st:=vD hP hn hz hi many;have hb:=hP.node _ (bH hi);obtain ⟨_,e,_⟩:=rL hb.1 hb.2;dsimp only;rw[bz];refine ⟨λh=>?_,λh=>?_⟩
  ·simp only[bI,bB] at h;rw[cf hi,ay,if_neg (by simp_all),ay,if_neg (by simp_all),ay,e,ay,CK (hP.W_ _ (bH hi)) hn hz,ay,bY (show i<1000000 by omega)];unfold plS HU at st;rw[bz];refine ⟨λa=>?_,λa=>?_⟩
   ·simp only[bB] at a;rw[if_pos (show (tq F need (l.take i) many).1<dM (jB F l[i]) need from a),if_neg (by omega)] at st;rw[if_pos (by simp_all),ay,Dt (by grind),ay,wr (x:=_-_) (by omega) (by omega)]
    simp_all
   ·simp only[bB] at a;rw[if_neg (show ¬(tq F need (l.take i) many).1<dM (jB F l[i]) need from a)] at st;rw[wr (x:=_-_) (by omega) (by omega)];by_cases g:dM (jB F l[i]) need=0
    ·simp_all
    ·rw[if_neg g] at st;rw[if_pos (by grind),ay,Dt (by grind),ay]
     simp_all
  ·rw[bm,ME hP hn hz i]
   grind
 ·subst b;dsimp only;rw[if_neg (by simp),bm,zp]
end
theorem Kh{F G:List aE}{l:List Int}(h:∀n∈l,jB F n=jB G n)(many:Int)(need:aE):BS F l many need=BS G l many need:=by
 have a:cV F l need=cV G l need:=by grind [cV,List.map_congr_left]
 have b:∀(m:List Int)(x:Int×List cM),(∀n∈m,n∈l)->m.foldl (plS F need) x=m.foldl (plS G need) x:=by
  intro m;induction m with
  |nil=>simp_all
  |cons n m ih=>grind [plS]
 grind [BS,tq]
theorem VX{a b need:aE}(k:aO a)(hb:aO b)(hn:aO need)(h:s_ a b):dM a need<=dM b need:=by
 have f:=wU k hn;have m:=wU hb hn;rcases yC5 (dM b need) (dM a need) with q | q
 ·obtain ⟨p,g,d⟩:=m.max (by have:=f.hi;omega);have e:∀(x y:Int×Int),x.2=y.2->x.1<=y.1->0<=y.2->x∈GF a need->y.1<(dM b need+1) * y.2->False:=λx y r s n o d=>by
   have:=f.fit x o;have t:(dM b need+1) * y.2<=dM a need * y.2:=yAW (by omega) n
   grind
  have f0:=h 0;have f1:=h 1;have i:=h 2;have j:=h 3;simp only[cmp] at f0 f1 i j;have:=hn.G_;have:=hn.mem;have:=hn.KN;have:=hn.LX;simp only[GF,gE,Mm,Oi] at g;rcases g with rfl | rfl | rfl | rfl
  ·exact (e (a.bG,need.bG) (b.bG,need.bG) rfl f0 (by omega) (by simp[GF]) d).elim
  ·exact (e (a.Mem,need.Mem) (b.Mem,need.Mem) rfl f1 (by omega) (by simp[GF]) d).elim
  ·exact (e (a.bK,need.bK) (b.bK,need.bK) rfl i (by omega) (by simp[GF]) d).elim
  ·exact (e (a.bM,need.bM) (b.bM,need.bM) rfl j (by omega) (by simp[GF]) d).elim
 omega
theorem Ft{F G:List aE}{l:List Int}{need:aE}(d:kU F l)(e:kU G l)(hn:aO need)(h:∀n∈l,s_ (jB F n) (jB G n)):cV F l need<=cV G l need:=by
 have:∀(m:List Int),(∀x∈m,x∈l)->cV F m need<=cV G m need:=by
  intro m;induction m with
  |nil=>grind [cV]
  |cons x m ih=>
   intro b;have g:=ih λy f=>b y (pp _ f);have a:=b x (sV ..);have:=VX (d.W_ x a) (e.W_ x a) hn (h x a)
   grind [cV]
 simp_all
theorem qR{F:List aE}{l:List Int}{many:Int}{need:aE}:(BS F l many need).2=true↔1<=many/\many<=cV F l need:=by grind [BS]
def tW(j:aJ):Bool:=(j.State == 3) || (j.State == 4)
theorem hasJ_lt{j:aJ}(h:tW j=true):j.State<5:=by simp only[tW,gG,nD] at h;omega
structure eX (s:bg) (st:bT) (j:aJ) (a:bO):Prop where
 Eb:a.aW=j.Id
 need:a.aw=j.aw
 pz:ju s j a.ai
 now:st.aP<j.Start+j.aQ
def kZ(F:List aE)(a:bO):List aE:=F.mapIdx (qv a)
theorem zeQ{F:List aE}{a:bO}:(kZ F a).length=F.length:=by simp[kZ]
theorem ni{F:List aE}{a:bO}{i:Nat}(h:i<(kZ F a).length):(kZ F a)[i]=qv a i (F[i]'(by grind [zeQ])):=by simp[kZ]
theorem sJ.eq{F G:List aE}{a:bO}(h:sJ F a G):G=kZ F a:=
 yCt (by rw[h.len,zeQ]) λi j o=>by rw[h.cO i j,ni o]
theorem vU{F:List aE}{a:bO}(h:uD F a):∀r∈kZ F a,aO r:=λr b=>by obtain ⟨i,hi,rfl⟩:=jc b;rw[ni hi];exact h i _
def eJ(s:bg)(st:bT):List aJ->List bO->List aE->Prop
 |[],A,_=>A=[]
 |j::H,A,F=>∃a b,A=a::b/\eX s st j a/\uD F a/\eJ s st H b (kZ F a)
def iH(s:bg)(st:bT):Prop:=eJ s st (st.ah.filter tW) st.ae s.aj
theorem eJ.mem{s:bg}{st:bT}{H:List aJ}{A:List bO}{F:List aE}(h:eJ s st H A F):∀a∈A,∃j∈H,eX s st j a:=by
 induction H generalizing A F with
 |nil=>intro a i;rw[show A=[] from h] at i;cases i
 |cons j H ih=>
  obtain ⟨b,o,rfl,u,x,z⟩:=h
  grind
theorem iH.mem{s:bg}{st:bT}(h:iH s st):∀a∈st.ae,∃j∈st.ah,eX s st j a:=λa i=>by
 obtain ⟨j,o,u⟩:=eJ.mem h a i
 grind
theorem We{α:Type}{M:List (Int×α)}{k:Int}{a:α}{b:Int}:dq (kj M k a) b=if k=b then some a else dq M b:=by
 induction M with
 |nil=>simp[kj,dq]
 |cons p M ih=>
  obtain ⟨q,v⟩:=p;simp only[kj];split
  ·grind [Go.Abs.dq]
  ·rename_i e;simp only[dq,ih]
   grind
theorem Ca{s:bg}(hs:nZ s)(k:bq s):PG 5000 s=some true:=by obtain ⟨r,e,h⟩:=rZ s hs;rw[e,h.2 k]
theorem Jh{l:List aE}(h:l.length<=1000000):za6 5000 l=some l:=by simp only[za6,GP h]
theorem Gq{s:bg}(hs:nZ s)(k:bq s):zcM 5000 s=some (.inr ([],s.aj)):=by have:=hs.nodes;simp only[zcM,Ca hs k,ay,Pu,b_,cA,Jh (show s.aj.length<=1000000 by omega)]
theorem TP{l:List cM}(h:1<=lN l):l≠[]:=λe=>by grind [lN]
structure AInv (s:bg) (st:bT) (i:Nat) (x:(List bO)×Int×(List aE)×List (Int×bO)):Prop where
 ix:x.2.1=(i:Int)
 iff:iH s st↔eJ s st ((st.ah.drop i).filter tW) x.1 x.2.2.1
 len:x.2.2.1.length=s.aj.length
 W_:∀r∈x.2.2.1,aO r
 keys:∀q,dq x.2.2.2 q≠none->∃m,∃h:m<st.ah.length,m<i/\st.ah[m].Id=q
 sub:∀a∈x.1,a∈st.ae
 yT:x.1.length<=300
theorem Gu{s:bg}(k:bq s){st:bT}(z:lI s st)(J:dz s st):gz (zeA 5000 s st) (iH s st):=by
 have hl:=z.bj;have hn:=z.spec.nodes;unfold zeA;rw[Gq z.spec k,ay];dsimp only;refine jC st.ah.length (AInv s st) (λi x f hi Q hr=>?_) (λx f Q=>?_) ⟨rfl,by simp[iH],rfl,k.nodes.ok,λq h=>absurd rfl h,λa R=>R,z.cr⟩ (by omega)
 ·obtain ⟨o,x1,F,M⟩:=x;obtain ⟨p,d,t,n,g,j,u⟩:=Q;dsimp only at p d t n g j u;subst p;rw[yBT hi] at d;have ji:=J.each _ (bH hi);have N:=ji.ok;have up:∀q,(∃m,∃h:m<st.ah.length,m<i/\st.ah[m].Id=q)->∃m,∃h:m<st.ah.length,m<i+1/\st.ah[m].Id=q:=λq ⟨m,h,U,A⟩=>⟨m,h,by omega,A⟩;simp only[fN,eo,cX hi,if_true,cf hi,ay,bY (show i<1000000 by omega)];rw[bz];refine ⟨λh=>hr _ ⟨rfl,?_,t,n,λq hq=>up q (g q hq),j,u⟩,λh=>?_⟩
  ·have e:tW st.ah[i]=false:=by grind [tW]
   grind
  ·have e:tW st.ah[i]=true:=by simpa only[tW,iF,oO] using h
   rw[List.filter_cons_of_pos e] at d;have ab:=N.start;have ad:=N.wall;rw[wr (x:=st.ah[i].Start+st.ah[i].aQ) (by omega) (by omega),bz];refine ⟨λU=>de λq=>?_,λU=>?_⟩
   ·obtain ⟨a,E,rfl,G,-⟩:=d.1 q;have:=G.now
    grind
   ·simp only[gG,bB,nD,not_or] at U;cases o with
    |nil=>grind
    |cons a E=>
     have R:=j a (sV ..);have K:=z.shares a R;have W:aC (a::E) 0=some a:=by unfold aC;simp_all
     have sl:slice? (a::E) 1 ((a::E).length:Int)=some E:=by unfold slice?;rw[if_pos ⟨by omega,by omega,by omega⟩];simp
     simp only[W,sl,ay];rw[bz];refine ⟨λA=>?_,λA=>?_⟩
     ·refine de λq=>?_;obtain ⟨X,y,Y,G,-⟩:=d.1 q
      grind [eX.Eb,gH,eX.need]
     ·simp only[gG,JY,ne_eq,not_or,Wh,iF,oO] at A;have eN:a.aw=st.ah[i].aw:=gH.1 A.2;refine (Mc z.spec k st.ah[i] a.ai (kI K (by decide))).bind λr Z=>?_;rw[bz];refine ⟨λh3=>?_,λh3=>?_⟩
      ·refine de λq=>?_;obtain ⟨X,y,Y,G,-⟩:=d.1 q
       grind [eX.pz]
      ·simp only[iF,oO] at h3;have S:=Z.1 h3;have P:eX s st st.ah[i] a:=⟨A.1,eN,S,by omega⟩;have T:uD F a->uS M F a:=λhf=>⟨by have:=N.id;omega,TP (by have:=N.many;have:=S.WN;omega),by grind [ju.shares],by grind [gj.need],by
        cases hm:dq M a.aW with
        |none=>rfl
        |some v=>obtain ⟨m,af,aa,ak⟩:=g a.aW (by simp_all);have:=J.bL.lt aa hi;omega,hf⟩
       refine (Kc (M:=M) (a:=a) (F:=F) (by omega) (kI K (by decide)) n).bind λr2 L=>?_;rw[bz];refine ⟨λO=>de λq=>?_,λO=>?_⟩
       ·obtain ⟨X,y,Y,G,hf,-⟩:=d.1 q
        simp_all
       ·simp only[JY,ne_eq,Wh] at O;have tk:=L.1.1 O;obtain ⟨eM,bh⟩:=L.2 O;have eF:=bh.eq;refine hr _ ⟨rfl,?_,?_,?_,λq hq=>?_,λb hb=>j b (pp _ hb),?_⟩
        ·rw[d];dsimp only;rw[eF];constructor
         ·rintro ⟨X,y,Y,G,hf,w⟩
          simp_all
         ·intro w;exact ⟨a,E,rfl,P,tk.fits,w⟩
        ·grind [zeQ]
        ·grind [vU,uS.fits]
        ·grind [We]
        grind
 ·obtain ⟨o,x1,F,M⟩:=x;obtain ⟨p,d,t,n,g,j,u⟩:=Q;dsimp only at p d;subst p;rw[List.drop_length] at d;simp only[eU,b_,cA,bm,nD];rw[d];constructor
  ·intro h;exact Xb (by omega)
  ·intro h;rw[show o=[] from h];rfl
structure OneB (n:Int) (b:iN):Prop where
 id:1<=b.Id/\b.Id<=281474976710656
 node:0<=b.Node/\b.Node<n
 lo:0<=b.bJ
 span:b.bJ<b.To
 hi:b.To<=1099511627776
structure uE (b:iN) (node p q:Int):Prop where
 node:b.Node=node
 span:b.bJ<b.To
 pq:p<q
 l:b.bJ<q
 r:p<b.To
structure Rk (l:List iN) (n:Int) (i:Nat) (b:iN):Prop where
 one:OneB n b
 up:∀x (h:x<l.length),x<i->l[x].Id<b.Id/\¬uE l[x] b.Node b.bJ b.To
structure Bi (l:List iN) (n:Int):Prop where
 len:l.length<=16
 each:∀i (h:i<l.length),Rk l n i l[i]
theorem Gn(l:List iN)(node p q:Int)(hl:l.length<=300):gz (fS 5000 l node p q) (∃b∈l,uE b node p q):=by
 simp only[fS];refine yE l (λ_ b=>¬uE b node p q) (λi f hi _ a=>?_) (λf h=>?_) (by omega)
 ·simp only[cX hi,if_true,cf hi,ay,bY (show i<1000000 by omega),bz];have e:decide ((if p > l[i].bJ then p else l[i].bJ)<(if q<l[i].To then q else l[i].To))=true↔l[i].bJ<l[i].To/\p<q/\l[i].bJ<q/\p<l[i].To:=by
   grind
  rw[bI,e,nD];exact ⟨λh=>tj ⟨_,bH hi,⟨h.1,h.2.1,h.2.2.1,h.2.2.2.1,h.2.2.2.2⟩⟩,λh=>a λm=>h ⟨m.node,m.span,m.pq,m.l,m.r⟩⟩
 ·simp only[eU,b_,cA];exact de λ⟨b,hb,d⟩=>Er (A:=λb=>¬uE b node p q) h b hb d
theorem IP(l:List iN)(node p q:Int)(hl:l.length<=300):gz (zbA 5000 l node p q) (∃b∈l,uE b node p q):=by
 simp only[zbA];refine yE l (λ_ b=>¬uE b node p q) (λi f hi _ a=>?_) (λf h=>?_) (by omega)
 ·simp only[cX hi,if_true,cf hi,ay,bY (show i<1000000 by omega),bz];simp only[bI,bB,nD];exact ⟨λh=>tj ⟨_,bH hi,⟨h.1.1.1.1,h.1.1.1.2,h.1.1.2,h.1.2,h.2⟩⟩,λh=>a λm=>h ⟨⟨⟨⟨m.node,m.span⟩,m.pq⟩,m.l⟩,m.r⟩⟩
 ·simp only[eU,b_,cA];exact de λ⟨b,hb,d⟩=>Er (A:=λb=>¬uE b node p q) h b hb d
theorem ZC(b:iN)(n:Int):gz (sD 5000 b n) (OneB n b):=by simp only[sD,gz,bm,bI,bB];exact ⟨λh=>⟨by omega,by omega,by omega,by omega,by omega⟩,λh=>by have:=h.id;have:=h.node;have:=h.lo;have:=h.span;have:=h.hi;omega⟩
theorem ref_one(b:iN)(n:Int):gz (ze2 5000 b n) (OneB n b):=by simp only[ze2,zbm,ay,gz,bz,bm,bI,bB];refine ⟨λa=>⟨λh=>⟨by omega,by omega,by omega,by omega,by omega⟩,λh=>by have:=h.id;have:=h.node;have:=h.lo;have:=h.span;have:=h.hi;omega⟩,λa=>⟨λh=>by simp at h,λh=>by have:=h.id;omega⟩⟩
theorem zE{α:Type}{l:List α}{i:Nat}(h:i<=l.length):slice? l 0 (i:Int)=some (l.take i):=by
 unfold slice?
 simp_all
theorem ZM{l:List iN}{i:Nat}{P:iN->Prop}:(∃b∈l.take i,P b)↔∃x,∃h:x<l.length,x<i/\P l[x]:=by
 constructor
 ·grind [List.getElem_of_mem]
 ·rintro ⟨x,e,a,hp⟩;have d:x<(l.take i).length:=by grind
  refine ⟨(l.take i)[x],bH d,?_⟩
  simp_all
theorem FW(l:List iN)(n:Int)(hl:l.length<=300):gz (nL 5000 l n) (Bi l n):=by
 unfold nL;rw[gz,bz];refine ⟨λh=>de λq=>?_,λh=>?_⟩
 ·have:=q.len
  grind
 ·simp only[bB] at h;refine yE l (λi b=>Rk l n i b) (λi f hi k v=>?_) (λf k=>?_) (by omega)
  ·have w:decide ((i:Int) > 0)=decide (0<i):=by simp
   simp only[fN,cX hi,if_true,cf hi,ay,bY (show i<1000000 by omega),w,zE (yCx hi)];refine (ZC l[i] n).bind λr j=>?_;rw[bz];refine ⟨λo=>de λq=>?_,λo=>?_⟩
   ·have:=j.2 (q.each i hi).one
    simp_all
   ·simp only[iF,oO] at o;have O:=j.1 o;have fin:(∀x (h:x<l.length),x<i->l[x].Id<l[i].Id)->bS ((fS 5000 (l.take i) l[i].Node l[i].bJ l[i].To).bind λr=>if r=true then some false else f ((i+1:Nat):Int)) (λb=>b=true↔Bi l n):=λp=>by
     refine (Gn (l.take i) _ _ _ (by rw[Dj];omega)).bind λr d=>?_;rw[ZM] at d;rw[bz];refine ⟨λe=>de λq=>?_,λe=>v ⟨O,λx g a=>⟨p x g a,λm=>e (d.2 ⟨x,g,a,m⟩)⟩⟩⟩;obtain ⟨x,g,a,m⟩:=d.1 e;exact ((q.each i hi).up x g a).2 m
    rw[bz];refine ⟨λe=>?_,λe=>?_⟩
    ·simp only[bB] at e;obtain ⟨m,rfl⟩:∃m,i=m+1:=⟨i-1,by omega⟩;have s:m<l.length:=by omega
     rw[wp1 (show m+1<1000000 by omega),cf s,ay,bz];refine ⟨λt=>de λq=>?_,λt=>fin λx g a=>?_⟩
     ·have:=((q.each (m+1) hi).up m s (by omega)).1
      grind
     ·simp only[bB] at t;rcases YH (yCy.1 a) with u | u
      ·have:=((k m s (by omega)).up x g u).1;omega
      simp_all
    simp_all
  ·simp only[eU,b_,cA];exact tj ⟨by omega,λi hi=>k i hi⟩
theorem UI{α:Type}{l:List α}{i:Nat}(h:i<l.length):slice? l (i:Int) ((i+1:Nat):Int)=some [l[i]]:=by
 unfold slice?;rw[if_pos ⟨by omega,by omega,by omega⟩]
 grind [List.take_succ_eq_append_getElem,List.drop_eq_nil_of_le]
theorem ZG(l:List iN)(n:Int)(hl:l.length<=300):gz (zdQ 5000 l n) (Bi l n):=by
 unfold zdQ;refine yE l (λi b=>Rk l n i b) (λi f hi o u=>?_) (λf o=>?_) (by omega)
 ·simp only[fN,cX hi,if_true,cf hi,ay,bY (show i<1000000 by omega)];refine (ref_one l[i] n).bind λr d=>?_;rw[bz];refine ⟨λj=>de λq=>?_,λj=>?_⟩
  ·have:=d.2 (q.each i hi).one
   simp_all
  ·simp only[iF,oO] at j;have O:=d.1 j;refine jC i (λx y=>y=(x:Int)/\∀z (h:z<l.length),z<x->l[z].Id<l[i].Id/\¬uE l[z] l[i].Node l[i].bJ l[i].To) (λx y g k m v=>?_) (λy g m=>?_) ⟨rfl,λz h A=>by omega⟩ (by omega)
   ·obtain ⟨rfl,p⟩:=m;have a:x<l.length:=by omega
    simp only[cX k,if_true,cf a,ay,bY (show x<1000000 by omega)];rw[bz];refine ⟨λs=>de λq=>?_,λs=>?_⟩
    ·have:=((q.each i hi).up x a k).1
     grind
    ·simp only[bB] at s;rw[UI a,ay];refine (IP [l[x]] _ _ _ (by simp)).bind λr e=>?_;simp only[zq,exists_eq_left] at e;rw[bz];refine ⟨λt=>de λq=>((q.each i hi).up x a k).2 (e.1 t),λt=>v _ ⟨rfl,λz hz w=>?_⟩⟩
     grind
   ·obtain ⟨rfl,p⟩:=m;simp only[eU,b_,cA];exact u ⟨O,p⟩
 ·simp only[eU,b_,cA,bm,bB];exact ⟨λh=>⟨by omega,λi hi=>o i hi⟩,λq=>by have:=q.len;omega⟩
def TL(st:bT)(a:bO):Prop:=∀j∈st.ah,j.Id=a.aW->∀x∈a.ai,∀b∈st.az,b.Node=x.Node->¬b.bJ<j.Start+j.aQ
structure BI (s:bg) (st:bT):Prop where
 cy:Bi st.az s.aj.length
 live:∀b∈st.az,b.Id<st.dw/\st.aP<b.To
 yM:∀a∈st.ae,TL st a
theorem OK{s:bg}{st:bT}(t:lI s st)(J:dz s st)(A:iH s st):gz (ic 5000 s st) (BI s st):=by
 have hb:=t.cy;have hj:=t.bj;have T:=t.cr;unfold ic;refine (FW st.az _ (by omega)).bind λr u=>?_;rw[bz];refine ⟨λv=>de λq=>?_,λv=>?_⟩
 ·grind [BI.cy]
 ·simp only[iF,oO] at v;have B:=u.1 v;refine yE st.az (λi b=>b.Id<st.dw/\st.aP<b.To) (λi f hi _ w=>?_) (λf Q=>?_) (by omega)
  ·simp only[cX hi,if_true,cf hi,ay,bY (show i<1000000 by omega)];rw[bz];simp only[gG,bB];exact ⟨λU=>de λq=>by have:=q.live _ (bH hi);omega,λU=>w (by omega)⟩
  ·simp only[eU,b_,cA];refine yE st.ae (λi a=>TL st a) (λi f hi _ w=>?_) (λf W=>?_) (by omega)
   ·simp only[cX hi,if_true,cf hi,ay,bY (show i<1000000 by omega)];have z:=bH hi;have X:=t.shares _ z;obtain ⟨j,d,P⟩:=A.mem _ z;have k:=J.each j d;have Y:=k.ok.id;have Z:=k.ok.start;have jw:=k.ok.wall;refine (Sv (by omega) J.bL (id:=st.ae[i].aW) (by have:=P.Eb;omega) J.ids).bind λr2 n=>?_;rw[n.1.2 ⟨j,d,P.Eb.symm⟩,if_neg (by simp)];have h:=n.2 (n.1.2 ⟨j,d,P.Eb.symm⟩);obtain ⟨E,aa⟩:=r2;dsimp only at h ⊢;obtain ⟨G,e⟩:=Hb (l:=st.ah) h.lo (by have:=h.lo;have:=h.hi;omega);have ej:st.ah[E.toNat]=j:=by
     obtain ⟨m,o,rfl⟩:=jc d;have:=J.bL.inj G o (by rw[h.is,P.Eb])
     simp_all
    rw[ej] at e;rw[e];simp only[ay];rw[wr (x:=j.Start+j.aQ) (by omega) (by omega)];have pn:=P.now;refine yE st.ae[i].ai (λ_ x=>∀b∈st.az,b.Node=x.Node->¬b.bJ<j.Start+j.aQ) (λm g o _ hg=>?_) (λg hG=>?_) (by omega)
    ·simp only[cX o,if_true,cf o,ay,bY (show m<1000000 by omega)];refine (Gn st.az _ _ _ (by omega)).bind λr3 p=>?_;rw[bz];refine ⟨λK=>de λq=>?_,λK=>hg λb hb hn hf=>K (p.2 ⟨b,hb,?_⟩)⟩
     ·obtain ⟨b,hb,R⟩:=p.1 K;exact q.yM _ z j d P.Eb.symm _ (bH o) b hb R.node R.l
     ·obtain ⟨y,S,rfl⟩:=jc hb;have:=Q y S;exact ⟨hn,(B.each y S).one.span,pn,hf,this.2⟩
    ·simp only[eU,b_,cA];refine w λL M N x G b hb=>?_;have:L=j:=by
      obtain ⟨m,o,rfl⟩:=jc d;obtain ⟨m',O,rfl⟩:=jc M;have:=J.bL.inj O o (by rw[N,P.Eb])
      simp_all
     subst this;exact Er (A:=λx=>∀b∈st.az,b.Node=x.Node->¬b.bJ<L.Start+L.aQ) hG x G b hb
   ·simp only[eU,b_,cA];exact tj ⟨B,Er Q,Er W⟩
structure aV (s:bg) (st:bT):Prop where
 spec:bq s
 nums:Q_ s st
 bj:dz s st
 waits:∀j∈st.ah,Iw s st j
 cr:iH s st
 fR:BI s st
 use:Oj s st
theorem Ot{s:bg}{st:bT}(a:lI s st):gz (ky 5000 s st) (aV s st):=by
 unfold ky;have step:∀{o:Option Bool}{P:Prop}{k:Option Bool},gz o P->(aV s st->P)->(P->gz k (aV s st))->gz (o.bind λr=>if r=true then k else some false) (aV s st):=λe b f=>e.bind λr d=>bz.2 ⟨λh=>f (d.1 h),λh=>de λq=>h (d.2 (b q))⟩
 refine step (rZ s a.spec) (λq=>q.spec) λk=>?_;refine step (QP k st) (λq=>q.nums) λe=>?_;refine step (jobs_ok k a) (λq=>q.bj) λb=>?_;refine step (QQ k a b) (λq=>q.waits) λf=>?_;refine step (Gu k a b) (λq=>q.cr) λg=>?_;refine step (OK a b g) (λq=>q.fR) λi=>?_;refine (ZW a).bind λr d=>?_;rw[bm,d];exact ⟨λj=>⟨k,e,b,f,g,i,j⟩,λq=>q.use⟩
def cR(A:List bO)(i:Int)(c:Nat):Int:=(A.map λa=>dO a.ai i * cmp c a.aw).sum
theorem zdM{a:bO}{A:List bO}{i:Int}{c:Nat}:cR (a::A) i c=dO a.ai i * cmp c a.aw+cR A i c:=by simp[cR]
theorem mS{A:List bO}{k:Nat}(h:k<A.length)(i:Int)(c:Nat):cR (A.take (k+1)) i c=cR (A.take k) i c+dO A[k].ai i * cmp c A[k].aw:=by grind [List.take_succ_eq_append_getElem,cR]
def BC(n:Int)(A:List bO):Prop:=∀a∈A,bo a.ai n/\aO a.aw
theorem aac{n:Int}{a:bO}(h:bo a.ai n/\aO a.aw)(i:Int)(c:Nat):0<=dO a.ai i * cmp c a.aw/\dO a.ai i * cmp c a.aw<=67108864:=
 hY (sR h.1 i) (wW.1 h.2 c)
theorem xu{n:Int}{A:List bO}(h:BC n A)(i:Int)(c:Nat):0<=cR A i c/\cR A i c<=67108864 * A.length:=by
 induction A with
 |nil=>simp[cR]
 |cons a A ih=>
  have d:=ih λb hb=>h b (pp _ hb);have e:=aac (h a (sV ..)) i c
  grind [zdM]
def Lv(F:List aE)(A:List bO):Prop:=∀i (h:i<F.length) c,cR A i c<=cmp c F[i]
theorem Iv{a:aE}{n:Int}(b:aO a)(hn:0<=n/\n<=64):zb8 5000 a n=some (mulR n a):=by
 obtain ⟨m,rfl⟩:∃m:Nat,n=(m:Int):=⟨n.toNat,by omega⟩;unfold zb8;refine bS.eq (jC m (λk x=>x=((k:Int),(k:Int) * a.bG,(k:Int) * a.Mem,(k:Int) * a.bK,(k:Int) * a.bM)) (λk x f hk d o=>?_) (λx f d=>?_) (by simp) (by omega))
 ·subst d;have g:=hY (n:=((k+1:Nat):Int)) (by omega) b.G_;have h:=hY (n:=((k+1:Nat):Int)) (by omega) b.mem;have i:=hY (n:=((k+1:Nat):Int)) (by omega) b.KN;have j:=hY (n:=((k+1:Nat):Int)) (by omega) b.LX;have e:∀x:Int,((k+1:Nat):Int) * x=(k:Int) * x+x:=λx=>by grind
  rw[e] at g h i j;simp only[cX hk,if_true,WG,ay,bY (show k<1000000 by omega)]
  grind [wr]
 ·subst d;simp only[eU,b_,cA,bm];rfl
theorem aao(a b:aE):gz (Pn 5000 a b) (∀c,cmp c a<=cmp c b):=by
 simp only[Pn,gz,bm,bI,bB];constructor
 ·intro h c
  match c with
  |0=>exact h.1.1.1
  |1=>exact h.1.1.2
  |2=>exact h.1.2
  |_+3=>exact h.2
 ·intro h;exact ⟨⟨⟨h 0,h 1⟩,h 2⟩,h 3⟩
theorem Xp{F:List aE}{A:List bO}(Q:F.length<=300)(R:A.length<=300)(hs:∀a∈A,a.ai.length<=300){n:Int}(h:BC n A):bS (zeB 5000 F A) λr=>r.2=true↔Lv F A:=by
 unfold zeB;refine jC F.length (λi x=>(x.1=true↔∀m (h:m<F.length),m<i->∀c,cR A m c<=cmp c F[m])/\x.2.1=(i:Int)/\x.2.2.length=i) (λi x f hi j w=>?_) (λx f j=>?_) ⟨⟨λ_ m h S=>by omega,λ_=>rfl⟩,rfl,rfl⟩ (by omega)
 ·obtain ⟨E,G,o⟩:=x;obtain ⟨d,b,p⟩:=j;dsimp only at d b p;subst b;simp only[cX hi,if_true];refine jC A.length (λk y=>y=((k:Int),cR (A.take k) i 0,cR (A.take k) i 1,cR (A.take k) i 2,cR (A.take k) i 3)) (λk y g hk s K=>?_) (λy g s=>?_) (by simp[cR]) (by omega)
  ·subst s;have t:=h _ (bH hk);have e:BC n (A.take (k+1)):=λa L=>h a (Px L);have lk:((A.take (k+1)).length:Int)<=300:=by grind
   have M:=xu e i 0;have N:=xu e i 1;have O:=xu e i 2;have P:=xu e i 3;rw[mS hk] at M N O P;simp only[cX hk,if_true,cf hk,ay,Qq (hs _ (bH hk)) t.1,Iv t.2 (sR t.1 i),WG,bY (show k<1000000 by omega)];refine K _ ?_;rw[mS hk,mS hk,mS hk,mS hk];have T:(mulR (dO A[k].ai i) A[k].aw).bG=dO A[k].ai i * cmp 0 A[k].aw:=rfl;have U:(mulR (dO A[k].ai i) A[k].aw).Mem=dO A[k].ai i * cmp 1 A[k].aw:=rfl;have W:(mulR (dO A[k].ai i) A[k].aw).bK=dO A[k].ai i * cmp 2 A[k].aw:=rfl;have X:(mulR (dO A[k].ai i) A[k].aw).bM=dO A[k].ai i * cmp 3 A[k].aw:=rfl
   grind [wr]
  ·subst s;have ap:∀z:aE,bX o [z]=some (o++[z]):=λz=>Dt (by grind);simp only[eU,b_,cA,fN,cf hi,ay,zcc,ap,bY (show i<1000000 by omega),zp];rw[bz];refine ⟨λu=>?_,λu=>?_⟩
   ·refine (aao _ _).bind λr v=>?_;refine w _ ⟨?_,rfl,by simp_all⟩;dsimp only;rw[v];have Y:∀c,cmp c ({ bG:=cR A i 0,Mem:=cR A i 1,bK:=cR A i 2,bM:=cR A i 3 }:aE)=cR A i (min c 3):=λc=>by
     match c with
     |0=>rfl
     |1=>rfl
     |2=>rfl
     |c+3=>rw[Nat.min_eq_right (by omega)];rfl
    have Z:∀c,cR A i (min c 3)=cR A i c:=λc=>by
     match c with
     |0=>rfl
     |1=>rfl
     |2=>rfl
     |c+3=>rw[Nat.min_eq_right (by omega)];rfl
    grind
   grind
 ·obtain ⟨E,G,o⟩:=x;obtain ⟨d,b,p⟩:=j;dsimp only at d b p;subst b;simp only[eU,b_,cA,bm];rw[d];exact ⟨λq i hi c=>q i hi hi c,λq i hi _ c=>q i hi c⟩
structure TU (s:bg) (st:bT) (i:Nat) (a:bO):Prop where
 up:∀m (h:m<st.ae.length),m+1=i->st.ae[m].aW<a.aW
 Eb:∃j∈st.ah,j.Id=a.aW
 shares:bo a.ai s.aj.length
 need:aO a.aw
structure Xt (s:bg) (st:bT):Prop where
 each:∀i (h:i<st.ae.length),TU s st i st.ae[i]
 fit:Lv s.aj st.ae
theorem Xt.NK{s:bg}{st:bT}(h:Xt s st):BC s.aj.length st.ae:=λa j=>by obtain ⟨i,hi,rfl⟩:=jc j;exact ⟨(h.each i hi).shares,(h.each i hi).need⟩
theorem Qz{s:bg}{st:bT}(d:lI s st):gz (zdB 5000 s st) (Xt s st):=by
 have hl:=d.bj;have u:=d.cr;have hn:=d.spec.nodes;unfold zdB;refine yE st.ae (λi a=>TU s st i a) (λi f hi p v=>?_) (λf p=>?_) (by omega)
 ·have K:decide ((i:Int) > 0)=decide (0<i):=by simp
  have w:=d.shares _ (bH hi);have fin:(∀m (h:m<st.ae.length),m+1=i->st.ae[m].aW<st.ae[i].aW)->bS ((Pp 5000 st.ah st.ae[i].aW).bind λr=>
    if decide (r<0)=true then some false else (zbl 5000 st.ae[i].ai (s.aj.length:Int)).bind λz=>
    if (!z)=true then some false else (Zc 5000 st.ae[i].aw).bind λg=>if (!g)=true then some false else f ((i+1:Nat):Int)) (λb=>b=true↔Xt s st):=λx=>by
   refine (wB (by omega) st.ae[i].aW).bind λr k=>?_;rw[bz];refine ⟨λh=>de λq=>?_,λh=>?_⟩
   ·have:=k.1.2 (q.each i hi).Eb
    simp_all
   ·simp only[bB] at h;refine (Ir _ _ (kI w (by decide))).bind λz n=>?_;rw[bz];refine ⟨λh=>de λq=>?_,λt=>?_⟩
    ·have:=n.2 (q.each i hi).shares
     simp_all
    ·simp only[iF,oO] at t;refine (BH _).bind λg o=>?_;rw[bz];refine ⟨λh=>de λq=>?_,λA=>?_⟩
     ·have:=o.2 (q.each i hi).need
      simp_all
     ·simp only[iF,oO] at A;exact v ⟨x,k.1.1 (by omega),n.1 t,o.1 A⟩
  simp only[fN,cX hi,if_true,cf hi,ay,bY (show i<1000000 by omega),K];rw[bz];refine ⟨λh=>?_,λh=>?_⟩
  ·simp only[bB] at h;obtain ⟨m,rfl⟩:∃m,i=m+1:=⟨i-1,by omega⟩;rw[wp1 (show m+1<1000000 by omega),cf (show m<st.ae.length by omega),ay,bz];refine ⟨λt=>de λq=>?_,λt=>fin λM L e=>?_⟩
   ·have:=(q.each (m+1) hi).up m (by omega) rfl
    grind
   simp_all
  simp_all
 ·simp only[eU,b_,cA];have G:BC s.aj.length st.ae:=λa y=>by
   obtain ⟨j,E,rfl⟩:=jc y;exact ⟨(p j E).shares,(p j E).need⟩
  refine (Xp (by omega) u (λa y=>kI (d.shares a y) (by decide)) G).bind λr v=>?_;rw[bm,v];exact ⟨λh=>⟨λi hi=>p i hi,h⟩,λh=>h.fit⟩
theorem Qc{l:List Int}(h:∀i (h:i+1<l.length),l[i]<l[i+1]):l.Pairwise (·<·):=by
 rw[yBa];intro i j hi b a;induction j with
 |zero=>omega
 |succ j ih=>grind
theorem asc_eq{l m:List Int}(hl:l.Pairwise (·<·))(hm:m.Pairwise (·<·))(h:∀x,x∈l↔x∈m):l=m:=by
 induction l generalizing m with
 |nil=>
  cases m with
  |nil=>rfl
  |cons y m=>grind [List.mem_cons_self]
 |cons x l ih=>
  cases m with
  |nil=>grind
  |cons y m=>
   rw[yBx] at hl hm;have e:x=y:=by
    rcases gE.1 ((h x).1 (sV ..)) with e | a
    ·exact e
    ·rcases gE.1 ((h y).2 (sV ..)) with e | b
     ·omega
     grind
   grind
theorem pu{s:bg}{st:bT}{H:List aJ}{A:List bO}{F:List aE}(h:eJ s st H A F)(f:∀r∈F,aO r):A.map (·.aW)=H.map (·.Id)/\Lv F A:=by
 induction H generalizing A F with
 |nil=>rw[show A=[] from h];exact ⟨rfl,λi hi c=>by grind [cR,wW,List.getElem_mem]⟩
 |cons j H ih=>
  obtain ⟨a,g,rfl,k,b,d⟩:=h;obtain ⟨m,e⟩:=ih d (vU b);refine ⟨by grind [eX.Eb],λi hi c=>?_⟩;have:=e i (by grind [zeQ]) c;rw[ni,qv,Cz,CH] at this
  grind [zdM]
theorem Nf{s:bg}{st:bT}{n:Int}{H:List aJ}{A:List bO}{F:List aE}(d:A.map (·.aW)=H.map (·.Id))(t:∀r∈F,aO r)(g:∀a∈A,∀j∈H,a.aW=j.Id->eX s st j a)(h:BC n A)(m:Lv F A):eJ s st H A F:=by
 induction H generalizing A F with
 |nil=>
  cases A with
  |nil=>rfl
  |cons a A=>cases d
 |cons j H ih=>
  cases A with
  |nil=>cases d
  |cons a A=>
   rw[sy,sy] at d;have e:a.aW=j.Id:=by simp_all
   have f:A.map (·.aW)=H.map (·.Id):=by simp_all
   have u:=h a (sV ..);have o:BC n A:=λb hb=>h b (pp _ hb);have fa:uD F a:=λi hi=>wW.2 λc=>by have p:=m i hi c;have v:=aac u i c;have w:=xu o i c;have x:=wW.1 (t _ (bH hi)) c;rw[zdM] at p;rw[qv,Cz,CH];omega
   refine ⟨a,A,rfl,g a (sV ..) j (sV ..) e,fa,ih f (vU fa) (λb hb k hk=>g b (pp _ hb) k (pp _ hk)) o λi hi c=>?_⟩;have p:=m i (by grind [zeQ]) c;rw[ni,qv,Cz,CH]
   grind [zdM]
theorem KR{s:bg}{st:bT}(J:dz s st):((st.ah.filter tW).map (·.Id)).Pairwise (·<·):=by
 have h:(st.ah.map (·.Id)).Pairwise (·<·):=Qc λi hi=>by rw[Pv,Pv];exact J.bL i (by simp_all)
 grind
structure XK (s:bg) (st:bT) (j:aJ):Prop where
 has:(∃a∈st.ae,a.aW=j.Id)↔tW j=true
 aaj:∀a∈st.ae,a.aW=j.Id->eX s st j a
theorem Lk{s:bg}{st:bT}(k:bq s)(J:dz s st)(A:iH s st):Xt s st/\∀j∈st.ah,XK s st j:=by
 obtain ⟨o,p⟩:=pu A k.nodes.ok;have pw:=KR J;rw[<-o] at pw;have CB:∀j∈st.ah,∀f∈st.ah,j.Id=f.Id->j=f:=λj b f d e=>by
  obtain ⟨m,n,rfl⟩:=jc b;obtain ⟨t,g,rfl⟩:=jc d;have:=J.bL.inj n g e
  simp_all
 refine ⟨⟨λi hi=>?_,p⟩,λj b=>⟨⟨λ⟨a,h,e⟩=>?_,λr=>?_⟩,λa h e=>?_⟩⟩
 ·obtain ⟨j,b,P⟩:=A.mem _ (bH hi);refine ⟨λm n e=>?_,⟨j,b,P.Eb.symm⟩,P.pz.shares,by rw[P.need];exact (J.each j b).ok.need⟩
  grind [List.pairwise_iff_getElem]
 ·have:a.aW∈st.ae.map (·.aW):=iP.2 ⟨a,h,rfl⟩
  grind
 ·have:j.Id∈(st.ah.filter tW).map (·.Id):=iP.2 ⟨j,Tu.2 ⟨b,r⟩,rfl⟩
  grind
 ·obtain ⟨f,d,P⟩:=A.mem a h
  grind [eX.Eb]
theorem XN{s:bg}{st:bT}(k:bq s)(J:dz s st)(R:Xt s st)(h:∀j∈st.ah,XK s st j):iH s st:=by
 have pw:(st.ae.map (·.aW)).Pairwise (·<·):=Qc λi hi=>by rw[Pv,Pv];exact (R.each (i+1) (by simp_all)).up i (by grind) rfl
 refine Nf (n:=s.aj.length) (asc_eq pw (KR J) λx=>⟨λf=>?_,λf=>?_⟩) k.nodes.ok (λa d j b e=>(h j (Tu.1 b).1).aaj a d e) R.NK R.fit
 ·obtain ⟨a,d,rfl⟩:=iP.1 f;obtain ⟨i,hi,rfl⟩:=jc d;obtain ⟨j,b,e⟩:=(R.each i hi).Eb;exact iP.2 ⟨j,Tu.2 ⟨b,(h j b).has.1 ⟨_,d,e.symm⟩⟩,e⟩
 ·obtain ⟨j,b,rfl⟩:=iP.1 f;obtain ⟨a,d,e⟩:=(h j (Tu.1 b).1).has.2 (Tu.1 b).2
  grind
structure mM (u:qp) (n:Int):Prop where
 shares:bo u.ai n
 yT:u.ai.length<=300
 need:aO u.aw
 lo:0<=u.bJ
 hi:u.To<=281474976710656
def jv(u:qp)(k t:Int):aE:=if u.bJ<=t/\t<u.To then mulR (dO u.ai k) u.aw else bU
def aR(L:List qp)(k t:Int):aE:=L.foldl (λr u=>BT r (jv u k t)) bU
theorem nA(L:List qp)(u:qp)(k t:Int):aR (L++[u]) k t=BT (aR L k t) (jv u k t):=by simp[aR]
def Eu(B:List iN)(k t:Int):Prop:=∃b∈B,b.Node=k/\b.bJ<=t/\t<b.To
open Classical in
noncomputable def bC(q:fi)(k t:Int):aE:=if Eu q.az k t then bU else fy (jB q.S.aj k) (aR q.L k t)
structure km (q:fi):Prop where
 spec:bq q.S
 now:0<=q.aP/\q.aP<=1099511627776
 cy:Bi q.az q.S.aj.length
 used:∀u∈q.L,mM u q.S.aj.length
 yT:q.L.length<=100
theorem pf_add{a b:aE}(d:∀c,0<=cmp c a/\cmp c a<=1099511627776)(hb:∀c,0<=cmp c b/\cmp c b<=1099511627776):WG 5000 a b=some (BT a b):=by
 unfold WG BT;have e:=hb 0;have f:=hb 1;have g:=hb 2;have h:=hb 3;have i:=d 0;have j:=d 1;have k:=d 2;have m:=d 3
 grind [cmp,wr]
theorem pf_sub{a b:aE}(d:∀c,0<=cmp c a/\cmp c a<=1099511627776)(hb:∀c,0<=cmp c b/\cmp c b<=1099511627776):zcc 5000 a b=some (fy a b):=by
 unfold zcc fy;have e:=hb 0;have f:=hb 1;have g:=hb 2;have h:=hb 3;have i:=d 0;have j:=d 1;have k:=d 2;have m:=d 3
 grind [cmp,wr]
theorem Uk(a b:aE):∃r,Pn 5000 a b=some r:=⟨_,rfl⟩
theorem Fw{u:qp}{n:Int}(h:mM u n)(k t:Int)(c:Nat):0<=cmp c (jv u k t)/\cmp c (jv u k t)<=67108864:=by
 unfold jv;split
 ·rw[CH];exact hY (sR h.shares k) (wW.1 h.need c)
 grind [Pw]
theorem Ij(a:aE):BT a bU=a:=dX λc=>by rw[wQ,Pw];omega
theorem Is{L:List qp}{n:Int}(h:∀u∈L,mM u n)(k t:Int)(c:Nat)(i:Nat):0<=cmp c (aR (L.take i) k t)/\cmp c (aR (L.take i) k t)<=67108864 * i:=by
 induction i with
 |zero=>simp[aR,Pw]
 |succ i ih=>
  by_cases hi:i<L.length
  ·rw[GK hi,nA,wQ];have:=Fw (h _ (bH hi)) k t c;omega
  grind [List.take_of_length_le]
section
variable{q:fi}(hq:km q)
include hq
theorem ZZ(k t:Int):zbN 5000 q k t=some (aR q.L k t):=by
 have hl:=hq.yT;unfold zbN;refine bS.eq (jC q.L.length (λi x=>x=((i:Int),(aR (q.L.take i) k t).bG,(aR (q.L.take i) k t).Mem,(aR (q.L.take i) k t).bK,(aR (q.L.take i) k t).bM)) (λi x f hi a g=>?_) (λx f a=>?_) (by simp[aR,bU]) (by omega))
 ·subst a;have u:=hq.used _ (bH hi);have j:=Is hq.used k t;simp only[fN];rw[if_pos (cX hi),cf hi,ay,bY (show i<1000000 by omega)];have st:aR (q.L.take (i+1)) k t=BT (aR (q.L.take i) k t) (jv q.L[i] k t):=by rw[GK hi,nA]
  by_cases h:q.L[i].bJ<=t/\t<q.L[i].To
  ·rw[if_pos (by simp_all),Qq u.yT u.shares,ay,Iv u.need (sR u.shares k),ay];have b:jv q.L[i] k t=mulR (dO q.L[i].ai k) q.L[i].aw:=by unfold jv;simp_all
   have d:=Fw u k t;rw[b] at d;have e:WG 5000 ({ bG:=(aR (q.L.take i) k t).bG,Mem:=(aR (q.L.take i) k t).Mem,bK:=(aR (q.L.take i) k t).bK,bM:=(aR (q.L.take i) k t).bM }:aE) (mulR (dO q.L[i].ai k) q.L[i].aw)=some (BT (aR (q.L.take i) k t) (mulR (dO q.L[i].ai k) q.L[i].aw)):=
    pf_add (λc=>by grind) (λc=>by grind)
   simp_all
  ·rw[if_neg (by simp_all)];have b:jv q.L[i] k t=bU:=by unfold jv;grind
   grind [Ij]
 ·subst a;dsimp only;rw[if_neg (by simp),bm,zp]
theorem pf_meets(k:Int){t:Int}(d:0<=t):gz (zbA 5000 q.az k t (i64.wrap (t+1))) (Eu q.az k t):=by
 have hl:=hq.cy.len;refine (IP q.az k t _ (by omega)).mono λr h=>h.trans ?_;constructor
 ·rintro ⟨b,hb,m⟩;obtain ⟨i,hi,rfl⟩:=jc hb;have o:=(hq.cy.each i hi).one;refine ⟨_,hb,m.node,?_,m.r⟩;have e:=m.l;have f:=m.pq;have g:=m.r;have:=o.hi
  grind [wr]
 ·rintro ⟨b,hb,m1,j,a⟩;obtain ⟨i,hi,rfl⟩:=jc hb;have o:=(hq.cy.each i hi).one;have:=o.hi;have:=o.lo;exact ⟨_,hb,m1,by omega,by grind [wr],by grind [wr],a⟩
theorem Sx{k:Nat}(hk:k<q.S.aj.length){t:Int}(b:0<=t):bS (zbn 5000 q k t) λr=>r.1=bC q k t:=by
 unfold zbn;rw[ZZ hq,ay];refine (pf_meets hq k b).bind λr a=>?_;unfold bC;by_cases h:Eu q.az k t
 ·rw[if_pos h,if_pos (a.2 h)];obtain ⟨x,e⟩:=Uk (aR q.L k t) { bG:=0,Mem:=0,bK:=0,bM:=0 };rw[e,ay,bm];rfl
 ·rw[if_neg h,if_neg λe=>h (a.1 e),cf hk,ay];have n:=hq.spec.nodes.ok _ (bH hk);have d:=Is hq.used k t;have hl:=hq.yT;rw[pf_sub (λc=>by grind [wW]) (λc=>by grind [List.take_length]),Dw,Dw];obtain ⟨x,e⟩:=Uk (aR q.L k t) q.S.aj[k];rw[e,ay,bm];have:jB q.S.aj k=q.S.aj[k]:=by grind [jB]
  rw[this]
end
def timeV(q:fi)(x:Int):Prop:=x=q.aP\/(∃u∈q.L,x=u.bJ\/x=u.To)\/∃b∈q.az,x=b.bJ\/x=b.To
structure Ak (q:fi) (T:List Int):Prop where
 bL:T.Pairwise λa b=>a<b
 mem:∀x,x∈T↔q.aP<=x/\timeV q x
 len:T.length<=300
structure Eo (l:List Int) (now:Int) (T:List Int):Prop where
 bL:T.Pairwise λa b=>a<b
 mem:∀x,x∈T↔now<=x/\x∈l
 len:T.length<=l.length
theorem later_ok(l:List Int)(hl:l.length<=300)(d:Int):bS (zb4 5000 l d) (Eo l d):=by
 unfold zb4;refine jC l.length (λi x=>x.2=(i:Int)/\Eo (l.take i) d x.1) (λi x f hi g u=>?_) (λx f g=>?_) ⟨rfl,by simp,by simp,by simp⟩ (by omega)
 ·obtain ⟨T,y⟩:=x;obtain ⟨rfl,k⟩:=g;dsimp only at k ⊢;have z:=k.len;rw[Dj] at z;rw[if_pos (cX hi),fN];have r:l.take (i+1)=l.take i++[l[i]]:=GK hi;have A:(l.take (i+1)).length=(l.take i).length+1:=by grind
  have same:Eo (l.take i) d T->(l[i]<d\/l[i]∈T)->Eo (l.take (i+1)) d T:=λh e=>⟨h.bL,λx=>by
   rw[r,kB,zq,h.mem];constructor
   ·grind
   ·rintro ⟨a,b | b⟩
    ·grind
    ·subst b;rcases e with e | e
     ·omega
     ·exact (h.mem _).1 e,by grind⟩
  refine jC T.length (λj x=>x=(j:Int)/\∀m (v:m<T.length),m<j->T[m]<l[i]) (λj x E n g G=>?_) (λx E g=>?_) ⟨rfl,λm _ h=>by omega⟩ (by omega)
  ·obtain ⟨rfl,K⟩:=g;rw[fN,if_pos (cX n),cf n,ay,cf hi,ay,bz];refine ⟨λh=>?_,λh=>?_⟩
   ·simp only[bB] at h
    grind [bY]
   ·simp only[bB] at h;rw[fN,ay,bz];refine ⟨λe=>?_,λe=>?_⟩
    ·simp only[bB] at e;dsimp only;rw[if_pos rfl,bY (show i<1000000 by omega)]
     grind
    ·simp only[bB] at e;rw[if_pos (cX n),ay,ay,bz];refine ⟨λt=>?_,λt=>?_⟩
     ·simp only[nD] at t
      grind [bY]
     ·simp only[nD] at t;rw[zE (yCx n),ay,GP (by grind),ay,ay,Dt (by grind),ay,jY (yCx n),ay,Dt (by grind),ay,bY (show i<1000000 by omega)];have o:T=T.take j++T.drop j:=(OJ ..).symm;have p:=k.bL;rw[o] at p;obtain ⟨p1,L,N⟩:=Py.1 p;have O:∀x∈T.drop j,l[i]<x:=λx g=>by
       obtain ⟨m,v,rfl⟩:=KW.1 g
       grind [Nat.eq_zero_or_pos,List.pairwise_iff_getElem]
      have M:∀x∈T.take j,x<l[i]:=λx g=>by
       obtain ⟨m,v,rfl⟩:=KW.1 g
       grind
      refine u _ ⟨rfl,Py.2 ⟨Py.2 ⟨p1,by simp,λa w b hb=>by grind⟩,L,λa w b hb=>?_⟩,λx=>?_,?_⟩
      ·grind
      ·rw[r,kB (s:=l.take i),zq];have:=k.mem x;rw[o,kB] at this;rw[kB,kB,zq];constructor
       ·rintro ((a | a) | a)
        ·grind
        ·omega
        grind
       grind
      grind
  ·obtain ⟨rfl,K⟩:=g;rw[fN,if_neg (by simp)];dsimp only;rw[if_neg (by simp),fN,cf hi,ay,bz];refine ⟨λe=>?_,λe=>?_⟩
   ·simp only[bB] at e;dsimp only;rw[if_pos rfl,bY (show i<1000000 by omega)]
    grind
   ·simp only[bB] at e;rw[if_neg (by simp)];dsimp only;rw[if_neg (by simp)];rw[zE (cN _),ay,GP (by grind),ay,ay,Dt (by grind),ay,jY (cN _),ay,Dt (by grind),ay,bY (show i<1000000 by omega)];rw[zp,List.drop_length,DZ];refine u _ ⟨rfl,Py.2 ⟨k.bL,by simp,λa w b hb=>?_⟩,λx=>?_,by grind⟩
    ·grind [List.getElem_of_mem]
    ·rw[r,kB,zq,kB,zq,k.mem]
     grind
 ·obtain ⟨T,y⟩:=x;obtain ⟨rfl,k⟩:=g;dsimp only at k ⊢;rw[if_neg (by simp),bm]
  simp_all
theorem OR{q:fi}(hq:km q):bS (zbh 5000 q) (Ak q):=by
 have hl:=hq.yT;have hb:=hq.cy.len;unfold zbh;refine jC q.L.length (λi x=>x.1=(i:Int)/\x.2.length=1+2 * i/\∀y,y∈x.2↔y=q.aP\/∃u∈q.L.take i,y=u.bJ\/y=u.To) (λi x f hi b g=>?_) (λx f b=>?_) ⟨rfl,rfl,λy=>by simp⟩ (by omega)
 ·obtain ⟨y,T⟩:=x;obtain ⟨rfl,e,a⟩:=b;dsimp only at e a ⊢;rw[if_pos (cX hi)];simp only[cf hi,ay];rw[Dt (by grind),ay,Dt (by grind),ay,bY (show i<1000000 by omega)];refine g _ ⟨rfl,by grind,λy=>?_⟩;rw[GK hi];simp only[kB,zq,a];constructor
  ·rintro (((h | ⟨u,h1,h2⟩) | h) | h)
   ·omega
   ·grind
   ·simp_all
   simp_all
  grind
 ·obtain ⟨y,m⟩:=x;obtain ⟨rfl,j,d⟩:=b;dsimp only at j d ⊢;rw[if_neg (by simp)];rw[zp] at d;refine jC q.az.length (λi x=>x.1=(i:Int)/\x.2.length=m.length+2 * i/\∀y,y∈x.2↔y∈m\/∃u∈q.az.take i,y=u.bJ\/y=u.To) (λi x f hi b g=>?_) (λx f b=>?_) ⟨rfl,rfl,λy=>by simp⟩ (by omega)
  ·obtain ⟨y,T⟩:=x;obtain ⟨rfl,e,a⟩:=b;dsimp only at e a ⊢;rw[if_pos (cX hi)];simp only[cf hi,ay];rw[Dt (by grind),ay,Dt (by grind),ay,bY (show i<1000000 by omega)];refine g _ ⟨rfl,by grind,λy=>?_⟩;rw[GK hi];simp only[kB,zq,a];constructor
   ·rintro (((h | ⟨u,h1,h2⟩) | h) | h)
    ·simp_all
    ·grind
    ·simp_all
    simp_all
   grind
  ·obtain ⟨y,T⟩:=x;obtain ⟨rfl,e,a⟩:=b;dsimp only at e a ⊢;rw[if_neg (by simp)];rw[zp] at a;refine (later_ok T (by omega) q.aP).bind λR k=>?_;rw[bm];refine ⟨k.bL,λx=>?_,by have:=k.len;omega⟩;rw[k.mem,a,d,or_assoc];rfl
end Go.Plain
end
section
namespace Go.Plain
open Go.Abs
theorem jn_ite{X R:Type}{r:X->Option R}{c:Prop}[Decidable c]{a b:X}:jn r (λj=>if c then j a else j b)=r (if c then a else b):=by grind [Go.Abs.jn]
theorem TG{l:List cM}{n:Int}(h:bo l n){i:Int}:dO l i > 0↔∃x∈l,x.Node=i:=by
 have b:∀x∈l,1<=x.aK:=λx a=>(h.mem x a).2.2.1;clear h;induction l with
 |nil=>simp[dO]
 |cons y l ih=>
  have d:=ih λx a=>b x (pp _ a);have f:=b y (sV ..);have g:=y_ (l:=l) (λx a=>by grind) i;have e:dO (y::l) i=(if y.Node=i then y.aK else 0)+dO l i:=by simp[dO]
  grind
def Ai(st:bT)(node b:Int)(a:bO):Prop:=∃j∈st.ah,j.Id=a.aW/\(∃x∈a.ai,x.Node=node)/\b<j.Start+j.aQ
theorem VF{s:bg}{st:bT}(u:lI s st)(R:Xt s st)(node d:Int):bS (zdW 5000 st node d) λb=>dz s st->(b=true↔∃a∈st.ae,Ai st node d a):=by
 have hl:=u.bj;have N:=u.cr;unfold zdW;refine yE st.ae (λi a=>dz s st->¬Ai st node d a) (λi f hi K v=>?_) (λf K=>?_) (by omega)
 ·simp only[fN,cX hi,if_true,cf hi,ay,bY (show i<1000000 by omega)];have t:=bH hi;refine (wB (by omega) st.ae[i].aW).bind λr w=>?_;rw[bz];refine ⟨λh=>?_,λh=>?_⟩
  ·simp only[bB] at h;have g:=w.2.1 h;have S:=(R.each i hi).shares;obtain ⟨L,e⟩:=Hb (l:=st.ah) g.lo (by have:=g.lo;have:=g.hi;omega);have y:=bH L;have fin:bS (if decide (i64.wrap (st.ah[r.toNat].Start+st.ah[r.toNat].aQ) > d)=true then some true else f ((i+1:Nat):Int)) (λb=>(∃x∈st.ae[i].ai,x.Node=node)->dz s st->(b=true↔∃a∈st.ae,Ai st node d a)):=by
    rw[bz];refine ⟨λk=>?_,λk=>?_⟩
    ·rw[bm];intro z J;have o:=(J.each _ y).ok;have:=o.start;have:=o.wall;rw[wr (by omega) (by omega)] at k;simp only[bB] at k;exact ⟨λ_=>⟨_,t,_,y,g.is,z,k⟩,λ_=>rfl⟩
    ·refine (v λJ E=>?_).mono λb hb _=>hb;obtain ⟨j,n,G,-,M⟩:=E;have:j=st.ah[r.toNat]:=by
      obtain ⟨m,O,rfl⟩:=jc n;have:=J.bL.inj O L (by rw[G,g.is])
      simp_all
     subst this;have o:=(J.each _ y).ok;have:=o.start;have:=o.wall;rw[wr (by omega) (by omega)] at k
     simp_all
   rw[Qq (kI (u.shares _ t) (by decide)) S,ay,e,bz];simp only[ay];refine ⟨λk=>?_,λk=>?_⟩
   ·simp only[bB] at k
    grind [TG]
   ·simp only[bB] at k;rw[if_neg (by simp)];exact v λJ ⟨j,n,G,p,M⟩=>k ((TG S).2 p)
  ·simp only[bB] at h;rw[if_neg (by simp)];exact v λJ ⟨j,n,G,p,M⟩=>by simp_all
 ·simp only[eU,b_,cA,bm,GN];rintro J ⟨a,t,E⟩;exact Er (A:=λa=>dz s st->¬Ai st node d a) K a t J E
theorem VK{s:bg}{st:bT}(v:lI s st)(R:Xt s st):bS (zdV 5000 s st) λb=>dz s st->(b=true↔BI s st):=by
 have hl:=v.cy;unfold zdV;refine yE st.az (λi b=>(b.Id<st.dw/\st.aP<b.To)/\(dz s st->¬∃a∈st.ae,Ai st b.Node b.bJ a)) (λi f hi w g=>?_) (λf w=>?_) (by omega)
 ·simp only[fN,cX hi,if_true,cf hi,ay,bY (show i<1000000 by omega)];have hb:=bH hi;rw[bz];refine ⟨λh=>?_,λh=>?_⟩
  ·rw[bm];intro J;simp only[gG,bB] at h;simp only[b_,GN];exact λq=>by have:=q.live _ hb;omega
  ·simp only[gG,bB] at h;refine (VF v R _ _).bind λr d=>?_;rw[bz];refine ⟨λk=>?_,λk=>g ⟨by omega,λJ=>λq=>k ((d J).2 q)⟩⟩;rw[bm];intro J;simp only[b_,GN];intro q;obtain ⟨a,n,j,o,e,⟨x,p,t⟩,u⟩:=(d J).1 k;exact q.yM a n j o e x p _ hb t.symm u
 ·simp only[eU,b_,cA];refine (ZG _ _ (by omega)).bind λr g=>?_;rw[bm];intro J;rw[g];refine ⟨λh=>⟨h,λb hb=>?_,λa n j o e x p b hb t u=>?_⟩,λq=>q.cy⟩
  ·grind [List.getElem_of_mem]
  ·obtain ⟨m,y,rfl⟩:=jc hb;exact (w m y).2 J ⟨a,n,j,o,e,⟨x,p,t.symm⟩,u⟩
structure AtA (l:List bO) (id:Int) (r:Int):Prop where
 lo:0<=r
 hi:r.toNat<l.length
 is:l[r.toNat].aW=id
theorem Wt{l:List bO}(hl:l.length<=300)(id:Int):bS (zdn 5000 l id) λr=>(0<=r↔∃a∈l,a.aW=id)/\(0<=r->AtA l id r):=by
 unfold zdn;refine yE l (λ_ j=>j.aW≠id) (λi f h _ b=>?_) (λf h=>?_) (by omega)
 ·simp only[cX h,if_true,cf h,ay,bY (show i<1000000 by omega),bz,bm,nD];exact ⟨λe=>⟨⟨λ_=>⟨_,bH h,e⟩,λ_=>by omega⟩,λ_=>⟨by omega,by omega,by simp_all⟩⟩,λe=>b e⟩
 ·simp only[eU,b_,cA,bm];refine ⟨⟨λh=>by omega,λ⟨j,d,e⟩=>absurd e (Er (A:=λj=>j.aW≠id) h j d)⟩,λh=>by omega⟩
theorem Xt.CB{s:bg}{st:bT}(R:Xt s st){i j:Nat}(hi:i<st.ae.length)(o:j<st.ae.length)(e:st.ae[i].aW=st.ae[j].aW):i=j:=by
 have pw:(st.ae.map (·.aW)).Pairwise (·<·):=Qc λi hi=>by rw[Pv,Pv];exact (R.each (i+1) (by simp_all)).up i (by grind) rfl
 grind [List.pairwise_iff_getElem]
structure PW (s:bg) (st:bT) (j:aJ):Prop where
 Po:gq s st j
 waits:Iw s st j
 has:XK s st j
theorem ref_job{s:bg}(k:bq s){st:bT}(t:lI s st)(R:Xt s st){j:aJ}(T:j∈st.ah):gz (ze1 5000 s st j) (PW s st j):=by
 have kv:=k.uV;have hl:=t.bj;have E:=t.cr;unfold ze1;refine (Hn j (t.after j T)).bind λr u=>?_;rw[bz];refine ⟨λh=>de λq=>?_,λh=>?_⟩
 ·have:=u.2 q.Po.ok;rw[this] at h;simp only[gG,bB,Pu,b_,false_or] at h;have:=q.Po.next;have:=q.Po.user;have:=q.Po.queue;have:=q.Po.born;have:=q.Po.start;have:=q.Po.fin;omega
 ·simp only[gG,bB,not_or,iF,oO] at h;have p:=u.1 h.1.1.1.1.1.1;have U:=p.state.st;have X:=p.start;have Y:=p.wall;simp only[jn_ite];generalize Z:(if decide (j.State≥5)=true then (3:Int) else if (j.State == 4)=true then 2 else if (j.State == 3)=true then 1 else 0)=e;have ev:e=jb j.State:=by
   rw[<-Z];simp only[jb,bB,nD,ge_iff_le];omega
  have eb:=EQ j.State;refine (Wt E j.Id).bind λr8 v=>?_;simp only[fN,ze7,ay];rw[ev,wr (x:=s.aI+jb j.State) (by omega) (by omega),bz];refine ⟨λO=>de λq=>?_,λO=>?_⟩
  ·have:=q.Po.version
   grind
  ·simp only[bB] at O;have I:gq s st j:=⟨p,by omega,by omega,by omega,by omega,by omega,by omega,by omega⟩;have eh:((j.State == 3) || (j.State == 4))=tW j:=rfl;rw[eh,bz];refine ⟨λh3=>de λq=>?_,λh3=>?_⟩
   ·have:=q.has.has
    simp_all
   ·have n:(∃a∈st.ae,a.aW=j.Id)↔tW j=true:=by
     grind
    rw[bz];refine ⟨λG=>tj ?_,λG=>?_⟩
    ·simp only[bB] at G;refine ⟨I,λhs=>by omega,n,λa A e=>?_⟩
     grind
    ·simp only[bB] at G;have A:=p.mF;refine yE j.aF (λ_ d=>∃i∈st.ah,i.Id=d.aW) (λm g w P hr=>?_) (λg P=>?_) (by omega)
     ·simp only[cX w,if_true,cf w,ay,bY (show m<1000000 by omega)];refine (wB (by omega) j.aF[m].aW).bind λr y=>?_;rw[bz];refine ⟨λz=>de λq=>?_,λz=>hr (y.1.1 ?_)⟩
      ·have:=y.1.2 ((q.waits (by omega)).after _ (bH w))
       simp_all
      simp_all
     ·simp only[eU,b_,cA];obtain ⟨b,e1,e2⟩:=Ta t.spec k (q:=j.Queue) (m:=j.aK) p.need p.o_;rw[e2,ay,bz];refine ⟨λz=>de λq=>?_,λz=>?_⟩
      ·have:=(q.waits (by omega)).fits
       simp_all
      ·simp only[iF,oO] at z;subst z;have W:Iw s st j:=λ_=>⟨e1,Er P⟩;rw[bz];refine ⟨λK=>tj ⟨I,W,n,λa A e=>?_⟩,λK=>?_⟩
       ·simp_all
       ·simp only[iF,oO] at K;have r0:=v.1.2 (n.2 K);have f:=v.2 r0;obtain ⟨Q,e3⟩:=Hb (l:=st.ae) f.lo (by have:=f.lo;have:=f.hi;omega);have o:=bH Q;rw[wr (x:=j.Start+j.aQ) (by omega) (by omega),e3,bz];simp only[ay];refine ⟨λL=>?_,λL=>de λq=>?_⟩
        ·simp only[bB] at L;rw[bz];refine ⟨λM=>?_,λM=>de λq=>M (gH.2 (q.has.aaj _ o f.is).need)⟩;have eN:=gH.1 M;refine (Zu t.spec k j _ (kI (t.shares _ o) (by decide))).bind λr N=>?_;rw[bm,N];refine ⟨λS=>⟨I,W,n,λa A e=>?_⟩,λq=>(q.has.aaj _ o f.is).pz⟩;have:a=st.ae[r8.toNat]:=by
          obtain ⟨m,w,rfl⟩:=jc A;have:=R.CB w Q (by rw[e,f.is])
          simp_all
         subst this;exact ⟨e,eN,S,L⟩
        ·have:=(q.has.aaj _ o f.is).now
         simp_all
theorem Jr{s:bg}{st:bT}(b:lI s st):gz (zc1 5000 s st) (aV s st):=by
 have hl:=b.bj;have hq:=b.stamps;have S:=b.use;unfold zc1;simp only[fN];refine (VW s b.spec).bind λr e=>?_;rw[bz];refine ⟨λh=>?_,λh=>?_⟩
 ·rw[if_pos trivial];refine de λq=>?_;have:=e.2 q.spec;rw[this] at h;have T:=q.spec.ids;have:=q.nums.now;have:=q.nums.next;have:=q.nums.book;rw[wr (x:=s.kf+1) (by omega) (by omega)] at h
  grind
 ·simp only[gG,bB,not_or,iF,oO] at h;have k:=e.1 h.1.1.1.1.1;have T:=k.ids;rw[wr (x:=s.kf+1) (by omega) (by omega)] at h;refine (JJ st.dw).bind λr2 g=>?_;rw[bz];refine ⟨λw=>de λq=>?_,λw=>?_⟩
  ·have:=g.2 (by have:=q.nums.book;omega)
   simp_all
  ·simp only[iF,oO] at w;have u2:=g.1 w;have W:Q_ s st:=⟨by omega,by omega,by omega⟩;rw[bz];refine ⟨λO=>?_,λO=>?_⟩
   ·rw[if_pos trivial];refine de λq=>?_;have:=q.bj.len
    grind
   ·simp only[bB] at O;refine (Qz b).bind λr4 y=>?_;rw[bz];refine ⟨λz=>?_,λz=>?_⟩
    ·rw[if_pos trivial];refine de λq=>?_
     grind [Lk,aV.bj,aV.cr]
    ·simp only[iF,oO] at z;have R:=y.1 z;refine (VK b R).bind λr5 A=>?_;rw[bz];refine ⟨λE=>?_,λE=>?_⟩
     ·rw[if_pos trivial];refine de λq=>?_
      grind [aV.bj,aV.fR]
     ·simp only[iF,oO] at E;refine (ref_use st.jA s.aU (by omega)).bind λr6 n=>?_;rw[bz];refine ⟨λu=>?_,λu=>?_⟩
      ·rw[if_pos trivial];refine de λq=>?_;have:=n.2 ⟨q.use.len,q.use.use⟩;rw[this] at u;have:=q.use.qlen
       simp_all
      ·simp only[gG,JY,ne_eq,not_or,Wh,iF,oO] at u;have P:=n.1 u.1;refine (JJ st.aB.aj).bind λr7 o=>?_;rw[bz];refine ⟨λG=>de λq=>?_,λG=>?_⟩
       ·have:=o.2 q.use.nodes
        simp_all
       ·simp only[iF,oO] at G;have X:=o.1 G;refine yE st.aB.aq (λ_ x=>0<=x/\x<=281474976710656) (λi f hi _ v=>?_) (λf Y=>?_) (by omega)
        ·simp only[cX hi,if_true,cf hi,ay,bY (show i<1000000 by omega)];refine (JJ _).bind λr8 p=>?_;rw[bz];refine ⟨λZ=>de λq=>?_,λZ=>v (p.1 (by simp_all))⟩;have:=p.2 (q.use.stamps _ (bH hi))
         simp_all
        ·simp only[eU,b_,cA];have U:Oj s st:=⟨P.1,P.2,by omega,X,Er Y⟩;refine yE st.ah (λi j=>PW s st j/\JK st.ah i<j.Id) (λi f hi _ v=>?_) (λf Q=>?_) (by omega)
         ·have hd:decide ((i:Int) > 0)=decide (0<i):=by simp
          have a:=bH hi;simp only[cX hi,if_true,cf hi,ay,bY (show i<1000000 by omega),hd];refine (ref_job k b R a).bind λr9 t=>?_;rw[bz];refine ⟨λK=>de λq=>?_,λK=>?_⟩
          ·have:=t.2 ⟨q.bj.each _ a,q.waits _ a,(Lk k q.bj q.cr).2 _ a⟩
           simp_all
          ·simp only[iF,oO] at K;have L:=t.1 K;rw[bz];refine ⟨λd=>?_,λd=>?_⟩
           ·simp only[bB] at d;obtain ⟨m,rfl⟩:∃m,i=m+1:=⟨i-1,by omega⟩;rw[wp1 (show m+1<1000000 by omega),cf (show m<st.ah.length by omega),ay,bz];refine ⟨λM=>de λq=>?_,λM=>v ⟨L,?_⟩⟩
            ·have:=q.bj.bL m hi
             grind
            ·rw[xk (by omega)]
             simp_all
           ·simp only[bB] at d;have:i=0:=by omega
            subst this;refine v ⟨L,?_⟩;have:=L.Po.ok.id
            grind [JK]
         ·simp only[eU,b_,cA];have N:dz s st:=Sw (by omega) λi hi=>⟨(Q i hi).1.Po,(Q i hi).2⟩;have all:∀j∈st.ah,PW s st j:=λj a=>by
           grind [List.getElem_of_mem]
          exact tj ⟨k,W,N,λj a=>(all j a).waits,XN k N R λj a=>(all j a).has,(A N).1 E,U⟩
theorem rQ{l:List Int}(h:l.length<=1000000):za0 5000 l=some l:=by unfold za0;exact GP h
theorem JV{s:bg}(hs:nZ s):zc4 5000 s=some s:=by
 have e:=hs.nodes;have g:=hs.parts;have h:=hs.iA;unfold zc4;rw[Jh (by omega),ay,show zcx 5000 s.aH=some s.aH from GP (by omega),ay];refine bS.eq (jC s.aH.length (λi x=>x=((i:Int),s.aH)) (λi x f hi a b=>?_) (λx f a=>?_) rfl (by omega))
 ·subst a;have d:=hs.part _ (bH hi);simp only[cX hi,if_true,cf hi,ay,bY (show i<1000000 by omega),rQ (show s.aH[i].length<=1000000 by omega),Int.toNat_natCast,yCk]
  simp_all
 ·subst a;simp only[eU,b_,cA];rw[show zbj 5000 s.aq=some s.aq from GP (by omega),ay];refine jC s.aq.length (λi x=>x=((i:Int),s.aq)) (λi x f hi a b=>?_) (λx f a=>?_) rfl (by omega)
  ·subst a;have d:=hs.queue _ (bH hi);simp only[cX hi,if_true,cf hi,ay,bY (show i<1000000 by omega),rQ (show s.aq[i].aU.length<=1000000 by omega),Int.toNat_natCast,yCk];exact b _ (Prod.ext rfl (yCk hi))
  ·subst a;simp only[eU,b_,cA,bm]
theorem Vi{n:Int}(h:1<=n/\n<=8):qV 5000 n=some (List.replicate n.toNat 0):=by simp only[qV,zcp];rw[if_neg (by grind),if_neg (by simp_all)];simp only[ay,GH];rw[if_pos (by omega)];rfl
theorem Wd{n:Int}(h:1<=n/\n<=256):zel 5000 n=some (.inr n):=by
 simp only[zel]
 simp_all
theorem new_ok{s:bg}(hs:nZ s)(k:bq s):fB 5000 s=some (.inr (List.replicate s.aq.length 0,[],s.aj,s.aH,s.aq,s.aU,s.am.lj,s.am.cW,s.am.fH,s.am.bQ,s.bW,s.Mode,s.ah,s.kf,s.aI,s.bp,s.dk,s.In,s.Out,s.bV,0,1,1,List.replicate s.aU.toNat 0,0,s.ah,s.aj)):=by have a:=hs.iA;unfold fB;rw[Ca hs k,ay,if_neg (by simp),Wd k.bj,ay];dsimp only;rw[Gq hs k,ay];dsimp only;rw[JV hs,ay,Vi k.BA,ay];unfold GH;rw[if_pos (by omega),ay];rw[yBZ]
theorem Ed{j:aJ}(h:j.aF.length<=1000000):i_ 5000 j=some j:=by unfold i_;rw[show zaG 5000 j.aF=some j.aF from GP h];rfl
theorem Oc{l:List aJ}(hl:l.length<=300)(b:∀j∈l,j.aF.length<=10):zcZ 5000 l=some l:=by
 unfold zcZ;rw[show zbI 5000 l=some l from GP (by omega),ay];refine bS.eq (jC l.length (λi x=>x=((i:Int),l)) (λi x f hi a d=>?_) (λx f a=>?_) rfl (by omega))
 ·subst a;have e:=b _ (bH hi);simp only[cX hi,if_true,cf hi,ay,bY (show i<1000000 by omega),Ed (show l[i].aF.length<=1000000 by omega),Int.toNat_natCast,yCk]
  simp_all
 ·subst a;simp only[eU,b_,cA,bm]
def mapA(A:List bO):List (Int×bO):=A.map λa=>(a.aW,a)
def BK(A:List bO):Prop:=(A.map (·.aW)).Pairwise (·<·)
theorem YA{A:List bO}(h:BK A):∀i (hi:i<A.length),dq (mapA A) A[i].aW=some A[i]:=by
 induction A with
 |nil=>simp_all
 |cons a A ih=>
  unfold BK at h;rw[sy,yBx] at h;intro i hi
  match i,hi with
  |0,hi=>simp[mapA,dq]
  |i + 1, hi=>
   have b:i<A.length:=by simp_all
   have:=h.1 A[i].aW (iP.2 ⟨_,bH b,rfl⟩);have e:dq (mapA (a::A)) A[i].aW=dq (mapA A) A[i].aW:=by
    simp only[mapA,sy,dq]
    grind
   rw[List.getElem_cons_succ,e];exact ih h.2 i b
theorem Jp{A:List bO}{q:Int}(h:∀a∈A,a.aW≠q):dq (mapA A) q=none:=by
 induction A with
 |nil=>rfl
 |cons a A ih=>simp only[mapA,sy,dq];rw[if_neg (h a (sV ..))];exact ih λb hb=>h b (pp _ hb)
theorem Xr{A:List bO}{a:bO}(h:∀b∈A,b.aW≠a.aW):kj (mapA A) a.aW a=mapA (A++[a]):=by
 induction A with
 |nil=>rfl
 |cons b A ih=>
  have:=ih λc d=>h c (pp _ d);simp only[mapA,LH,sy,kj] at this ⊢
  simp_all
theorem i64wf{n:Int}(h:0<=n/\n<=1048576):(Lit.int .i64 n).wf=true:=by
 have a:IntKind.i64.min=-9223372036854775808:=by decide
 have b:IntKind.i64.max=9223372036854775807:=by decide
 simp only[Lit.wf,bI,bB,a,b];omega
theorem Lr{A:List bO}(hl:A.length<=300)(h:BK A)(i:∀a∈A,0<=a.aW/\a.aW<=1048576):A_ (λk=>k) (mapA A)=some (A.map (·.aW)):=by
 have e:(mapA A).map Prod.fst=A.map (·.aW):=by simp[mapA]
 unfold A_;have b:∀p∈mapA A,(Lit.int .i64 p.1).wf=true:=λp d=>by
  obtain ⟨a,j,rfl⟩:=iP.1 d
  grind [i64wf]
 have f:(A.map (·.aW)).Nodup:=h.imp λh=>by omega
 have g:(mapA A).length<=1000000:=by grind [mapA]
 rw[e,if_pos ⟨g,f,b⟩,List.mergeSort_of_pairwise (h.imp λh=>by grind)];simp
theorem Fi{A:List bO}(hl:A.length<=300)(h:BK A)(g:∀a∈A,0<=a.aW/\a.aW<=1048576)(hs:∀a∈A,a.ai.length<=300):a_ 5000 (mapA A)=some A:=by
 unfold a_;rw[Lr hl h g,ay];refine bS.eq (jC (A.map (·.aW)).length (λi x=>x=((i:Int),A.take i)) (λi x f hi d j=>?_) (λx f d=>?_) (by simp) (by grind))
 ·subst d;have b:i<A.length:=by simp_all
  have e:=YA h i b;have k:=hs _ (bH b);simp only[cX hi,if_true,cf hi,ay,bY (show i<1000000 by omega),Pv,e,oel,Io (show A[i].ai.length<=1000000 by omega)]
  grind [Dt,List.take_succ_eq_append_getElem]
 ·subst d;simp only[eU,b_,cA,bm,yH,zp]
theorem Db{l:List iN}(h:l.length<=1000000):zaW 5000 l=some l:=by unfold zaW;exact GP h
theorem beq_dep(a:Ht):Ht.beq a a=true:=by simp[Ht.beq]
theorem Uu(a:cM):cM.beq a a=true:=by simp[cM.beq]
theorem Xo(a:iN):iN.beq a a=true:=by simp[iN.beq]
theorem Mn(a:aE):aE.beq a a=true:=gH.2 rfl
theorem lpT{α:Type}{b:(Int->Option Bool)->Int->Option Bool}(l:List α)(hs:∀(i:Nat)(f:Int->Option Bool)(h:i<l.length),b f (i:Int)=f ((i+1:Nat):Int))(a:∀f,b f (l.length:Int)=some true){N:Nat}(d:l.length<N):bD b N 0=some true:=
 bS.eq (yE l (λ_ _=>True) (λi f h _ e=>by simp_all) (λf _=>by rw[a];exact ⟨_,rfl,rfl⟩) d)
theorem Jm(l:List Int)(hl:l.length<=300):zdb 5000 l l=some true:=by
 unfold zdb;rw[if_neg (by simp)];refine lpT l (λi f h=>?_) (λf=>?_) (by omega)
 ·simp only[cX h,if_true,cf h,ay,bY (show i<1000000 by omega),yC0,b_,cA]
 ·simp only[eU,b_,cA]
theorem XM(j:aJ)(hl:j.aF.length<=300):zey 5000 j j=some true:=by
 unfold zey;rw[if_neg (by simp)];refine lpT j.aF (λi f h=>?_) (λf=>?_) (by omega)
 ·simp only[cX h,if_true,cf h,ay,bY (show i<1000000 by omega),beq_dep,Pu,b_,cA]
 ·simp only[eU,b_,cA,yCs,Mn,Bool.and_self]
theorem WC(l:List aJ)(hl:l.length<=300)(a:∀j∈l,j.aF.length<=10):zet 5000 l l=some true:=by
 unfold zet;rw[if_neg (by simp)];refine lpT l (λi f h=>?_) (λf=>?_) (by omega)
 ·have:=a _ (bH h);simp only[cX h,if_true,cf h,ay,bY (show i<1000000 by omega),XM l[i] (by omega),Pu,b_,cA]
 ·simp only[eU,b_,cA]
theorem NX(l:List cM)(hl:l.length<=300):zdk 5000 l l=some true:=by
 unfold zdk;rw[if_neg (by simp)];refine lpT l (λi f h=>?_) (λf=>?_) (by omega)
 ·simp only[cX h,if_true,cf h,ay,bY (show i<1000000 by omega),Uu,Pu,b_,cA]
 ·simp only[eU,b_,cA]
theorem MQ(l:List bO)(hl:l.length<=300)(b:∀a∈l,a.ai.length<=300):zeu 5000 l l=some true:=by
 unfold zeu;rw[if_neg (by simp)];refine lpT l (λi f h=>?_) (λf=>?_) (by omega)
 ·have:=b _ (bH h);simp only[fN,cX h,if_true,cf h,ay,bY (show i<1000000 by omega),yC0,Mn,NX l[i].ai this,Pu,b_,cA]
 ·simp only[eU,b_,cA]
theorem Rb(l:List iN)(hl:l.length<=300):zez 5000 l l=some true:=by
 unfold zez;rw[if_neg (by simp)];refine lpT l (λi f h=>?_) (λf=>?_) (by omega)
 ·simp only[cX h,if_true,cf h,ay,bY (show i<1000000 by omega),Xo,Pu,b_,cA]
 ·simp only[eU,b_,cA]
theorem QI{s:bg}{st:bT}(a:lI s st):zdh 5000 st st=some true:=by have b:=a.bj;have d:=a.use;have e:=a.stamps;have f:=a.cy;unfold zdh;rw[if_pos (by simp),WC _ (by omega) a.after,ay,if_pos rfl,MQ _ a.cr a.sh,ay,if_pos rfl,Rb _ (by omega),ay,if_pos rfl,Jm _ (by omega),ay,if_pos rfl,Jm _ (by omega),ay];simp
theorem OO{l:List aJ}(h:bZ l)(n:Nat):bZ (l.take n):=λi hi=>by rw[Dj] at hi;rw[RW,RW];exact h i (by omega)
theorem aal{l:List aJ}(hl:l.length<=300)(hs:bZ l){id:Int}(h:∀j∈l,j.Id<id):zaM 5000 l id=some ((l.length:Int),false):=by
 unfold zaM;have e:(bD (λb (a:Int×Int)=>
   if (decide (a.1<a.2))=true then
    (
     (aC l (i64.wrap (Int.fdiv (u64.wrap (i64.wrap (a.1+a.2))) (2 ^ 1)))).bind λd=>
     some (decide (d.Id≥id))).bind λg=>
    if (!g)=true then
     b ((i64.wrap ((i64.wrap (Int.fdiv (u64.wrap (i64.wrap (a.1+a.2))) (2 ^ 1)))+1)),a.2)
    else
     b (a.1,(i64.wrap (Int.fdiv (u64.wrap (i64.wrap (a.1+a.2))) (2 ^ 1))))
   else
    some a.1) 5000 (0,(l.length:Int)))=some (l.length:Int):=by
  refine bS.eq (half hl hs id (λj=>some (decide (j.Id<id))) (λj k=>rfl) (λi=>some i) (λi hi m n=>?_) _ (λf x=>?_))
  ·rw[bm];rcases YH hi with q | q
   ·grind
   ·rw[q]
  grind
 simp_all
theorem put_ok{l:List aJ}{n:Nat}(hn:n<l.length)(hl:l.length<=300)(hs:bZ l){m:Int}(hm:(l.length:Int)<=m)(a:gj l[n]):zbZ 5000 (l.take n) l[n] m=some (l.take (n+1),0):=by
 obtain ⟨r,e,h⟩:=Ch l[n];have b:=h.2 a;subst b;have d:=a.mF;have f:(l.take n).length=n:=by grind
 unfold zbZ;rw[e,ay,if_neg (by simp),aal (by omega) (OO hs n) (λj a=>?_),ay]
 ·rw[if_neg (by simp),if_neg (by grind),Ed (by omega),ay];unfold zbq;have sl:slice? (l.take n) ((l.take n).length:Int) ((l.take n).length:Int)=some []:=by
   unfold slice?
   simp_all
  rw[sl,ay,if_neg (by simp),if_pos (by simp),Dt (by grind),ay,ay,GK hn]
 ·obtain ⟨i,hi,rfl⟩:=jc a;rw[RW];exact hs.lt (by omega) hn
def cG(F:List aE)(l:List bO):List aE:=l.foldl kZ F
structure TInv (s:bg) (st:bT) (i:Nat) (x:Int×(List aE)×List (Int×bO)):Prop where
 ix:x.1=(i:Int)
 h:∃H,eJ s st H (st.ae.drop i) x.2.1
 len:x.2.1.length=s.aj.length
 W_:∀r∈x.2.1,aO r
 m:x.2.2=mapA (st.ae.take i)
 fr:x.2.1=cG s.aj (st.ae.take i)
theorem CA{s:bg}{st:bT}(q:aV s st):BK st.ae:=by have h:=(pu q.cr q.spec.nodes.ok).1;unfold BK;rw[h];exact KR q.bj
theorem IT{s:bg}{st:bT}(q:aV s st):∀a∈st.ae,0<=a.aW/\a.aW<=1048576:=λa b=>by
 obtain ⟨j,d,P⟩:=q.cr.mem a b;have:=(q.bj.each j d).ok.id
 grind [eX.Eb]
theorem of_ok{s:bg}{st:bT}(d:lI s st)(q:aV s st):dB 5000 s st=some (.inr (st.aB.aq,st.ah,(st.ae.map λa=>(a.aW,a)),s.aj,s.aH,s.aq,s.aU,s.am.lj,s.am.cW,s.am.fH,s.am.bQ,s.bW,s.Mode,s.ah,s.kf,s.aI,s.bp,s.dk,s.In,s.Out,s.bV,st.aP,st.Next,st.dw,st.az,st.jA,st.aB.aj,s.ah,cG s.aj st.ae)):=by
 have hl:=d.bj;have Q:=d.cr;have hn:=d.spec.nodes;have hb:=d.cy;have W:=d.use;have hs:=d.stamps;obtain ⟨r,e,h⟩:=Ot d;have k:=h.2 q;subst k;have R:=q.bj.len;have y:=CA q;unfold dB;rw[e,ay,if_neg (by simp),new_ok d.spec q.spec,ay];dsimp only;refine bS.eq ?_;refine jC st.ah.length (λi x=>x=((i:Int),st.ah.take i)) (λi x f hi g k=>?_) (λx f g=>?_) rfl (by omega)
 ·subst g;simp only[cX hi,if_true,cf hi,ay,bY (show i<1000000 by omega),put_ok hi hl q.bj.bL R (q.bj.each _ (bH hi)).ok,yC0,b_,cA]
  simp_all
 ·subst g;simp only[eU,b_,cA];refine jC st.ae.length (TInv s st) (λi x f hi g k=>?_) (λx f g=>?_) ⟨rfl,⟨_,by rw[yC1];exact q.cr⟩,rfl,q.spec.nodes.ok,rfl,rfl⟩ (by omega)
  ·obtain ⟨S,F,M⟩:=x;obtain ⟨n,p,t,u,v,w⟩:=g;dsimp only at n p t u v w;subst n;have N:=bH hi;have A:=d.sh _ N;obtain ⟨H,E⟩:=p;rw[yBT hi] at E;obtain ⟨j,U,P⟩:=q.cr.mem _ N;have G:=(q.bj.each j U).ok;have K:uD F st.ae[i]/\∃O,eJ s st O (st.ae.drop (i+1)) (kZ F st.ae[i]):=by
    cases H with
    |nil=>cases (show st.ae[i]::st.ae.drop (i+1)=[] from E)
    |cons X O=>
     obtain ⟨Y,Z,e',-,hf,k⟩:=E
     grind
   have free:∀b∈st.ae.take i,b.aW≠st.ae[i].aW:=λb hb=>by
    obtain ⟨m,L,rfl⟩:=jc hb;rw[Dj] at L;rw[RW];have:=yBa.1 y m i (by grind) (by simp_all) (by omega)
    grind
   have T:uS M F st.ae[i]:=⟨by have:=G.id;have:=P.Eb;omega,TP (by have:=G.many;have:=P.pz.WN;omega),by rw[t];exact P.pz.shares,by rw[P.need];exact G.need,by grind [Jp],K.1⟩;simp only[cX hi,if_true,cf hi,ay,bY (show i<1000000 by omega)];refine (Kc (M:=M) (a:=st.ae[i]) (F:=F) (by omega) A u).bind λr o=>?_;have z:=o.1.2 T;obtain ⟨eM,bh⟩:=o.2 z;rw[z];simp only[yC0,b_,cA];refine k _ ⟨rfl,?_,?_,?_,?_,?_⟩
   ·grind [sJ.eq]
   ·grind [sJ.eq,zeQ]
   ·grind [sJ.eq,vU]
   ·grind [Xr,List.take_succ_eq_append_getElem]
   grind [sJ.eq,List.take_succ_eq_append_getElem,cG.eq_1]
  ·obtain ⟨S,F,M⟩:=x;obtain ⟨n,p,t,u,v,w⟩:=g;dsimp only at n p t u v w;subst n;simp only[eU,b_,cA];rw[show za8 5000 st.az=some st.az from GP (by omega),ay,show zbp 5000 st.jA=some st.jA from GP (by omega),ay,show zbp 5000 st.aB.aq=some st.aB.aq from GP (by omega),ay,bm];rw[v,w,zp,zp];rfl
theorem of_no{s:bg}{st:bT}(a:lI s st)(q:¬aV s st):dB 5000 s st=some (.inl 2):=by
 obtain ⟨r,e,h⟩:=Ot a;have:r=false:=by simp_all
 grind [Go.Abs.dB]
theorem shown{s:bg}{st:bT}(b:lI s st)(q:aV s st) :
  R_ 5000 st.aB.aq st.ah (st.ae.map λa=>(a.aW,a)) st.aP st.Next st.dw st.az st.jA st.aB.aj=some st:=by
 have hl:=b.bj;have hb:=b.cy;have d:=b.use;have hs:=b.stamps;unfold R_;rw[Oc (by omega) b.after,ay,show a_ 5000 (st.ae.map λa=>(a.aW,a))=some st.ae from Fi b.cr (CA q) (IT q) b.sh,ay,Db (by omega),ay,rQ (by omega),ay,show zca 5000 st.aB.aq=some st.aB.aq from GP (by omega),ay]
theorem VZ{s:bg}{st:bT}(b:lI s st)(q:aV s st):bR 5000 s st=some (.inr (st.aB.aq,st.ah,(st.ae.map λa=>(a.aW,a)),true,s.aj,s.aH,s.aq,s.aU,s.am.lj,s.am.cW,s.am.fH,s.am.bQ,s.bW,s.Mode,s.ah,s.kf,s.aI,s.bp,s.dk,s.In,s.Out,s.bV,st.aP,st.Next,st.dw,st.az,st.jA,st.aB.aj,s.ah,cG s.aj st.ae)):=by obtain ⟨r,d,h⟩:=Jr b;have e:=h.2 q;subst e;unfold bR;rw[of_ok b q,ay];dsimp only;rw[d,ay,if_neg (by simp),shown b q,ay,QI b,ay]
theorem Vb{s:bg}{st:bT}(a:lI s st)(q:¬aV s st):bR 5000 s st=some (.inl true):=by
 obtain ⟨r,b,h⟩:=Jr a;have:r=false:=by simp_all
 grind [Go.Abs.bR,of_no]
theorem mK{s:bg}(hs:nZ s) :
  zaV 5000 s.aj s.aH s.aq s.aU s.am.lj s.am.cW s.am.fH s.am.bQ s.bW s.Mode s.ah s.kf s.aI s.bp s.dk s.In s.Out s.bV=some s:=by
 unfold zaV;rw[show zc4 5000 _=some s from JV hs];rfl
theorem xg{l:List Int}{n:Int}(h:nI l n):(l.length:Int)<=n\/l=[]:=by
 have a:∀i,i<l.length->(i:Int)<=l[i]!:=by
  intro i;induction i with
  |zero=>
   intro hi;have:=(h 0 hi).1
   grind [LY]
  |succ i ih=>
   intro hi;have b:=ih (by omega);have d:=(h (i+1) hi).1
   grind [qT]
 cases hl:l.length with
 |zero=>simp_all
 |succ m=>
  left;have b:=a m (by omega);have d:=(h m (by omega)).2
  grind
theorem gn{s:bg}(k:bq s):nZ s:={
 nodes:=by have:=k.nodes.hi;omega
 parts:=by have:=k.parts.hi;omega
 iA:=by have:=k.iA.hi;omega
 part:=λp a=>by
  have b:=xg (k.parts.ok p a).2;have:=k.nodes.hi
  grind
 queue:=λq hq=>by
  have b:=xg (k.iA.ok q hq).BA;have:=k.BA
  grind }
theorem rU{l:List cM}{n:Int}(h:bo l n)(hn:0<=n):(l.length:Int)<=n:=by
 rcases xg h.node with a | a
 ·simp_all
 simp_all
theorem WM{s:bg}{st:bT}(q:aV s st):lI s st:={
 spec:=gn q.spec
 bj:=by have:=q.bj.len;have:=q.spec.bj;omega
 after:=λj b=>by have:=(q.bj.each j b).ok.mF;omega
 cr:=by have h:=(pu q.cr q.spec.nodes.ok).1;have d:=IX List.length h;simp only[yH] at d;have f:(st.ah.filter tW).length<=st.ah.length:=List.length_filter_le _ _;have:=q.bj.len;have:=q.spec.bj;omega
 cy:=by have:=q.fR.cy.len;omega
 use:=by have:=q.use.len;have:=q.spec.BA;omega
 stamps:=by have:=q.use.qlen;have:=q.spec.iA.hi;omega
 shares:=λa e=>by obtain ⟨j,b,P⟩:=q.cr.mem a e;have g:=rU P.pz.shares (by omega);have:=q.spec.nodes.hi;omega }
theorem Vx{u:qp}{k t a:Int}(h:a<=t)(b:¬(a<u.bJ/\u.bJ<=t))(d:¬(a<u.To/\u.To<=t)):jv u k t=jv u k a:=by
 unfold jv
 grind
theorem JN{L:List qp}{k t a:Int}(h:∀u∈L,jv u k t=jv u k a):aR L k t=aR L k a:=by
 unfold aR;have:∀(M:List qp)(r:aE),(∀u∈M,jv u k t=jv u k a)->M.foldl (λr u=>BT r (jv u k t)) r=M.foldl (λr u=>BT r (jv u k a)) r:=by
  intro M;induction M with
  |nil=>simp_all
  |cons u M ih=>simp_all
 simp_all
theorem uO{q:fi}{k t a:Int}(f:q.aP<=a)(h:a<=t)(d:∀x,q.aP<=x->timeV q x->¬(a<x/\x<=t)):bC q k t=bC q k a:=by
 have i:aR q.L k t=aR q.L k a:=JN λu e=>Vx h (λg=>d u.bJ (by omega) (.inr (.inl ⟨u,e,.inl rfl⟩)) g) λg=>d u.To (by omega) (.inr (.inl ⟨u,e,.inr rfl⟩)) g;have j:Eu q.az k t↔Eu q.az k a:=by
  constructor
  ·rintro ⟨b,hb,h1,h2,h3⟩;refine ⟨b,hb,h1,?_,by omega⟩;rcases yC5 a b.bJ with g | g
   ·exact absurd ⟨g,h2⟩ (d b.bJ (by omega) (.inr (.inr ⟨b,hb,.inl rfl⟩)))
   omega
  ·rintro ⟨b,hb,h1,h2,h3⟩;refine ⟨b,hb,h1,by omega,?_⟩;rcases yC5 t b.To with g | g
   ·exact g
   ·exact absurd ⟨h3,g⟩ (d b.To (by omega) (.inr (.inr ⟨b,hb,.inr rfl⟩)))
 unfold bC
 grind
theorem wL(T:List Int){a t:Int}(h:a<=t):∃x,(x=a\/x∈T)/\a<=x/\x<=t/\∀y∈T,y<=t->y<=x:=by
 induction T with
 |nil=>simp_all
 |cons y T ih=>grind
structure Dr (q:fi) (a b:Int) (F:List aE):Prop where
 len:F.length=q.S.aj.length
 low:∀(k:Nat)(h:k<F.length),Rz (λt v=>v=bC q k t) a b F[k]
structure Je (q:fi) (w:Bb):Prop where
 part:0<=w.Part/\w.Part<q.S.aH.length
 many:w.aK<=100000
 need:aO w.aw
 o_:w.aw≠bU
 wall:1<=w.aQ/\w.aQ<=65536
def ce(q:fi)(w:Bb):List Int:=(q.S.aH[w.Part.toNat]?).getD []
theorem jM{q:fi}{w:Bb}(h:Je q w):aC q.S.aH w.Part=some (ce q w)/\ce q w∈q.S.aH:=by
 obtain ⟨a,e⟩:=Hb h.part.1 h.part.2;have:ce q w=q.S.aH[w.Part.toNat]:=by grind [ce]
 simp_all
def Yu(q:fi):Prop:=∀(k t:Int),0<=k->k<q.S.aj.length->q.aP<=t->aO (bC q k t)
theorem Kx{V:Int->aE->Prop}{a b:Int}{r:aE}(h:Rz V a b r)(d:∀t v,a<=t->V t v->aO v):aO r:=wW.2 λc=>by
 obtain ⟨t,v,f,g,i,e⟩:=h.cO c
 grind [wW]
theorem AW{F:List aE}{k:Nat}(h:k<F.length):jB F (k:Int)=F[k]:=by grind [jB]
theorem JE{q:fi}(hq:km q){w:Bb}(b:Je q w){F:List aE}(hl:F.length=q.S.aj.length)(d:∀n∈ce q w,aO (jB F n)):kU F (ce q w):=by obtain ⟨_,a⟩:=jM b;have e:=hq.spec.parts.ok _ a;have hs:=(gn hq.spec).part _ a;refine ⟨by omega,λn hn=>?_,d⟩;have:=e.2.mem n hn;omega
theorem pf_when{q:fi}(hq:km q)(O:Yu q){w:Bb}(b:Je q w){t:Int}(h0:q.aP<=t)(ht:t<=1099511627776) :
  bS (UY 5000 q w t) λr=>∃F,Dr q t (t+w.aQ) F/\r=BS F (ce q w) w.aK w.aw:=by
 have nn:=hq.spec.nodes.hi;have P:=hq.now;have wl:=b.wall;unfold UY;rw[if_neg (by have:=b.part;simp_all),wr (x:=t+w.aQ) (by omega) (by omega)];refine (OR hq).bind λT A=>?_;have tl:=A.len;refine jC q.S.aj.length (λi x=>x.1=(i:Int)/\x.2.length=i/\∀(k:Nat)(h:k<x.2.length),Rz (λt v=>v=bC q k t) t (t+w.aQ) x.2[k]) (λi x f hi a Q=>?_) (λx f a=>?_) ⟨rfl,rfl,λk h=>by simp at h⟩ (by omega)
 ·obtain ⟨y,F⟩:=x;obtain ⟨rfl,d,m⟩:=a;dsimp only at d m ⊢;rw[if_pos (cX hi)];refine (Sx hq hi (by omega)).bind λr e=>?_;rw[e];refine jC T.length (λj x=>∃v:aE,x=((j:Int),v.bG,v.Mem,v.bK,v.bM)/\GY (bC q i t::((T.take j).filter λy=>decide (t<y/\y<t+w.aQ)).map (bC q i)) v) (λj x R p a E=>?_) (λx R a=>?_) ⟨bC q i t,rfl,GY.one _⟩ (by omega)
  ·obtain ⟨v,rfl,o⟩:=a;simp only[fN];rw[if_pos (cX p)];simp only[cf p,ay];rw[bY (show j<1000000 by omega)];have N:(T.take (j+1)).filter (λy=>decide (t<y/\y<t+w.aQ))=(T.take j).filter (λy=>decide (t<y/\y<t+w.aQ))++(if t<T[j]/\T[j]<t+w.aQ then [T[j]] else []):=by
    rw[GK p,List.filter_append]
    grind
   have tm:=(A.mem T[j]).1 (bH p);by_cases g:t<T[j]
   ·rw[if_pos (by simp_all)];by_cases S:T[j]<t+w.aQ
    ·rw[if_pos (by simp_all)];refine (Sx hq hi (t:=T[j]) (by omega)).bind λs U=>?_;have G:zcU 5000 ({ bG:=v.bG,Mem:=v.Mem,bK:=v.bK,bM:=v.bM }:aE) s.1=some (uU v s.1):=YU v s.1;rw[G,ay];rw[if_pos ⟨g,S⟩] at N;refine E _ ⟨uU v s.1,rfl,?_⟩;rw[N,yBC,<-LH,U];exact o.add _
    grind
   grind
  ·obtain ⟨v,rfl,o⟩:=a;dsimp only;rw[if_neg (by simp)];rw[zp] at o;have G:bX F ([({ bG:=v.bG,Mem:=v.Mem,bK:=v.bK,bM:=v.bM }:aE)]:List aE)=some (F++[v]):=Dt (by grind);rw[G,ay,bY (show i<1000000 by omega)];have low:Rz (λt v=>v=bC q i t) t (t+w.aQ) v:=by
    refine ⟨λu x W h2 e c=>?_,λc=>?_⟩
    ·obtain ⟨z,z1,z2,X,Y⟩:=wL T W;have Z:bC q i u=bC q i z:=uO (by omega) X λy K L M=>by
      have:=Y y ((A.mem y).2 ⟨K,L⟩) M.2;omega
     rw[e,Z];refine o.le _ ?_ c
     grind
    ·obtain ⟨x,a,e⟩:=o.cO c
     grind
   grind
 ·obtain ⟨y,F⟩:=x;obtain ⟨rfl,d,m⟩:=a;dsimp only at d m ⊢;obtain ⟨ep,hm⟩:=jM b;have hP:kU F (ce q w):=JE hq b d λn hn=>by
   have kp:=(hq.spec.parts.ok _ hm).2.mem n hn;have e:jB F n=F[n.toNat]:=(rL kp.1 (by omega)).2.2;rw[e];exact Kx (m n.toNat (by omega)) λu x hu a=>by rw[a];exact O _ u (by omega) (by omega) (by omega)
  rw[if_neg (by simp),ep,ay,XH hP b.need b.o_ b.many,ay,bm];exact ⟨F,⟨d,m⟩,rfl⟩
structure PR (nodes:List (List bP)) (q:fi) (L:Nat):Prop where
 len:nodes.length=q.S.aj.length
 cO:Ee nodes q.aP L
 val:∀(k:Nat)(h:k<nodes.length)(t:Int),q.aP<=t->zc nodes[k] t (bC q k t)
theorem PR.right{i:List (List bP)}{q:fi}{L:Nat}(h:PR i q L):Yu q:=λk t s hk o=>by
 have j:k.toNat<i.length:=by grind [PR.len]
 have:=(h.val k.toNat j t o).ok (h.cO.each _ j).1
 grind
theorem PR.iff{i:List (List bP)}{q:fi}{L:Nat}(h:PR i q L){k:Nat}(hk:k<i.length){t:Int}(j:q.aP<=t){v:aE}:zc i[k] t v↔v=bC q k t:=
 ⟨λo=>o.CB (h.cO.each k hk).1 (h.val k hk t j),λe=>by rw[e];exact h.val k hk t j⟩
theorem KA{b:List (List bP)}{q:fi}{L:Nat}(R:L<=900)(hq:km q)(j:PR b q L){w:Bb}(e:Je q w){t:Int}(S:q.aP<=t)(T:t<=1099511627776) :
  bS (zaI 5000 b w.Part w.aK w.aw w.aQ t q.aP q.S.aH) λr=>∃F,F.length=q.S.aj.length/\(∀n∈ce q w,Rz (λu v=>v=bC q n u) t (t+w.aQ) (jB F n))/\r=BS F (ce q w) w.aK w.aw:=by
 have nn:=hq.spec.nodes.hi;have M:=hq.now;have U:=e.wall;obtain ⟨N,E⟩:=jM e;have s:=hq.spec.parts.ok _ E;have pl:=(gn hq.spec).part _ E;have O:=j.right;unfold zaI;rw[if_neg (by have:=e.part;simp_all),wr (x:=t+w.aQ) (by omega) (by omega),Zi _ (by grind [PR.len]),Dw,N,Dw];have G:=j.len;refine jC (ce q w).length (λi x=>x.1=(i:Int)/\x.2.length=b.length/\∀n∈(ce q w).take i,Rz (λu v=>v=bC q n u) t (t+w.aQ) (jB x.2 n)) (λi x f hi m z=>?_) (λx f m=>?_) ⟨rfl,by simp,λn h=>by simp at h⟩ (by omega)
 ·obtain ⟨y,F⟩:=x;obtain ⟨rfl,p,o⟩:=m;dsimp only at p o ⊢;have hn:=s.2.mem _ (bH hi);obtain ⟨k,P⟩:∃k:Nat,(ce q w)[i]=(k:Int):=⟨((ce q w)[i]).toNat,by omega⟩;have hk:k<b.length:=by omega
  obtain ⟨K,lk⟩:=j.cO.each k hk;have f0:=j.cO.first k hk K.ne;rw[if_pos (cX hi),cf hi,ay,P,cf hk,ay];refine (Nl (by omega) K (a:=t) (by omega) (show t<t+w.aQ by omega)).bind λr A=>?_;rw[cf (show k<F.length by omega),ay,bY (show i<1000000 by omega),yBZ];refine z _ ⟨rfl,by simp[p],λn d=>?_⟩;have low:Rz (λu v=>v=bC q k u) t (t+w.aQ) r:=A.iff λu v Q=>j.iff hk (by omega);dsimp only;by_cases g:n=(k:Int)
  ·grind [AW]
  ·have:jB (F.set k r) n=jB F n\/n<0:=by
    grind [jB]
   rw[GK hi,kB,zq] at d;rcases d with d | d
   ·have nb:=s.2.mem n (Px d)
    grind
   omega
 ·obtain ⟨y,F⟩:=x;obtain ⟨rfl,p,o⟩:=m;dsimp only at p o ⊢;rw[zp] at o;have hP:kU F (ce q w):=JE hq e (by omega) λn hn=>by
   have nb:=s.2.mem n hn;exact Kx (o n hn) λu x Q m=>by rw[m];exact O n u (by omega) (by omega) (by omega)
  rw[if_neg (by simp),ay,place_ok hP e.need e.o_ e.many,ay,bm]
  grind
theorem xr{a:List (List bP)}{q:fi}{L:Nat}(s:L<=900)(hq:km q)(g:PR a q L){w:Bb}(d:Je q w){t:Int}(h:q.aP<=t)(i:t<=1099511627776) :
  ∃F,Dr q t (t+w.aQ) F/\kU F (ce q w)/\zaI 5000 a w.Part w.aK w.aw w.aQ t q.aP q.S.aH=some (BS F (ce q w) w.aK w.aw)/\UY 5000 q w t=some (BS F (ce q w) w.aK w.aw):=by
 have j:=g.right;have v:=hq.now;obtain ⟨r,e,F,f,rfl⟩:=pf_when hq j d h i;obtain ⟨K,k,G,M,b,rfl⟩:=KA s hq g d h i;obtain ⟨N,y⟩:=jM d;have m:=hq.spec.parts.ok _ y;have o:∀n∈ce q w,jB G n=jB F n:=λn hn=>by have nb:=m.2.mem n hn;obtain ⟨z,_,A⟩:=rL (F:=F) nb.1 (by grind [Dr.len]);have p:=f.low n.toNat z;rw[yCu nb.1] at p;rw[A];exact (b n hn).CB p
 rw[Kh o] at k;refine ⟨F,f,JE hq d f.len λn hn=>?_,k,e⟩;have nb:=m.2.mem n hn;rw[<-o n hn];exact Kx (b n hn) λu x O E=>by rw[E];exact j n u (by omega) (by omega) (by omega)
end Go.Plain
end
