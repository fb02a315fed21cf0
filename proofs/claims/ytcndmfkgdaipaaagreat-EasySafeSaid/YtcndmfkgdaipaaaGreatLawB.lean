/- Lemmas. -/
import Derived.Test.YtcndmfkgdaipaaaGreatLawA
set_option linter.all false
open Go.IntKind (i64 u64)
section
namespace Go.Plain
open Go.Abs
theorem WQ{α:Type}(z:α){n:Nat}(h:n<=1000000):Gv z (n:Int) (n:Int)=some (List.replicate n z):=by
 unfold Gv
 grind
theorem UG(v:aE)(need:aE):fA v (mulR 0 need)=v:=dW λc=>by rw[Dz,B_];omega
theorem IX(v a b:aE):fA (fA v a) b=fA v (Ca a b):=dW λc=>by simp only[Dz,wH];omega
theorem Pt.none{l:List bY}(hs:dG l)(a b:Int)(need:aE):Pt l a b (mulR 0 need) l:=
 ⟨hs,by omega,λ_ _=>rfl,λt v h=>by rw[UG,ite_self];exact h⟩
structure DR (nodes:List (List bY)) (now:Int) (L:Nat):Prop where
 each:∀k (h:k<nodes.length),dG nodes[k]/\nodes[k].length<=L
 first:∀k (h:k<nodes.length) (h':0<nodes[k].length),nodes[k][0].At=now
theorem Au{l:List cO}{n:Int}(h:∀y∈l,y.Node≠n):dL l n=0:=by
 induction l with
 |nil=>simp[dL]
 |cons y l ih=>
  have a:=ih λz hz=>h z (pN _ hz);simp only[dL,tX,List.sum_cons] at a ⊢
  simp_all
theorem BD{l:List cO}{n:Int}(h:bm l n){i j:Nat}(a:i<j)(b:j<l.length):l[i].Node<l[j].Node:=by
 induction j with
 |zero=>omega
 |succ j ih=>
  have s:=(h (j+1) b).up
  grind [rQ]
theorem Kf{l:List cO}{n:Int}(h:bm l n){i:Nat}(hi:i<l.length):dL l l[i].Node=l[i].aM:=by
 have e:=SF (l:=l.take (i+1)) (m:=l.drop (i+1)) l[i].Node;have d:dL (l.take i) l[i].Node=0:=Au λy a=>by obtain ⟨j,b,rfl⟩:=OT.1 a;rw[DB] at b;rw[RL];have:=BD h (show j<i by omega) hi;omega
 have f:dL (l.drop (i+1)) l[i].Node=0:=Au λy a=>by obtain ⟨j,b,rfl⟩:=OT.1 a;rw[yBY] at b;rw[yCl];have:=BD h (show i<i+1+j by omega) (by omega);omega
 rw[Oc,nD hi,d,f,if_pos rfl] at e;omega
theorem Qk{l:List cO}{n:Int}(h:bm l n){i:Nat}(hi:i<l.length):dL (l.take i) l[i].Node=0:=Au λy a=>by obtain ⟨j,b,rfl⟩:=OT.1 a;rw[DB] at b;rw[RL];have:=BD h (show j<i by omega) hi;omega
theorem CH{d:List (List bY)}{g:Int}{L:Nat}(hL:L<=900)(w:DR d g L)(hn:d.length<=40){a b:Int}{l:List cO}{need:aE}(hl:bm l d.length)(S:l.length<=300)(G:aN need)
  (h0:g<=a) (m:a<b) (hb:b<=281474976710656) (n:∀k (h:k<d.length) t v,a<=t->t<b->za d[k] t v->yj (mulR (dL l k) need) v) :
  bO (zbh 5000 d a b l need) λr=>r.2=0/\r.1.length=d.length/\∀k (h:k<d.length) (K:k<r.1.length),Pt d[k] a b (mulR (dL l k) need) r.1[k]:=by
 unfold zbh;rw[WQ _ (by omega),aw];have node:∀i (hi:i<l.length),∃k:Nat,l[i].Node=(k:Int)/\k<d.length:=λi hi=>by obtain ⟨N,U,_⟩:=hl.mem _ (bH hi);exact ⟨l[i].Node.toNat,by omega,by omega⟩
 refine jm l.length (λi x=>∃T:List (List bY),x=((i:Int),T)/\T.length=l.length/\∀j (hj:j<l.length) (O:j<T.length) (k:Nat) (hk:k<d.length),j<i->l[j].Node=(k:Int)->Pt d[k] a b (mulR l[j].aM need) T[j]) (λi x f hi e P=>?_) (λx f e=>?_)
  ⟨_,rfl,List.length_replicate ..,λj _ _ _ _ h=>by omega⟩ (by omega)
 ·obtain ⟨T,rfl,O,W⟩:=e;obtain ⟨k,o,hk⟩:=node i hi;have sh:=hl.mem _ (bH hi);dsimp only;rw[if_pos (cK hi),bX hi,aw];have y:dL l k=l[i].aM:=by grind [Kf]
  have fk:=n k hk;rw[y] at fk;obtain ⟨u,lk⟩:=w.each k hk;have f0:=w.first k hk u.ne;have Q:aN (mulR l[i].aM need):=by obtain ⟨v,p⟩:=za.ex u (t:=a) (by omega);have:=fk a v (Py _) m p;refine wB.2 λc=>?_;have N:=this c;have U:=wB.1 (p.ok u) c;have X:=wB.1 G c;rw[B_] at N ⊢;have:=yBZ (show 0<=l[i].aM by omega) X.1;omega
  refine (OK G ⟨sh.2.2.1,sh.2.2.2⟩).bind λr s=>?_;have z:=s.1.2 Q;rw[if_neg (by simp[z]),s.2 z,o,bX hk,xk];refine (yr (by omega) u Q (by omega) m hb fk).bind λr2 Y=>?_;rw[bX (show i<T.length by omega),aw,if_neg (by simp_all),bT (show i<1000000 by omega),yBL]
  grind
 ·obtain ⟨T,rfl,O,W⟩:=e;dsimp only;rw[if_neg (by simp)];refine jm l.length (λi x=>∃M:List (List bY),x=((i:Int),M)/\M.length=d.length/\∀k (h:k<d.length) (K:k<M.length),Pt d[k] a b (mulR (dL (l.take i) k) need) M[k]/\(dL (l.take i) k=0->M[k]=d[k])) (λi x f hi e P=>?_) (λx f e=>?_)
   ⟨_,rfl,rfl,λk h _=>⟨by simpa[dL] using Pt.none (w.each k h).1 a b need,λ_=>rfl⟩⟩ (by omega)
  ·obtain ⟨M,rfl,R,Z⟩:=e;obtain ⟨k,o,hk⟩:=node i hi;dsimp only;rw[if_pos (cK hi),bX hi,aw,bX (show i<T.length by omega),aw,o,bX (show k<M.length by omega),aw,bT (show i<1000000 by omega),yBL];refine P _ ⟨_,rfl,by simp[R],λA h K=>?_⟩;have hb:=Qk hl hi;rw[o] at hb;by_cases q:k=A
   ·subst q;have E:(M.set k T[i])[k]=T[i]:=yBD _;rw[nD hi,hb,if_pos o,Int.zero_add,E];have sh:=hl.mem _ (bH hi)
    grind
   ·have E:(M.set k T[i])[A]=M[A]'(by omega):=yBM q _;rw[nD hi,if_neg (by omega),Int.add_zero,E]
    simp_all
  ·obtain ⟨M,rfl,R,Z⟩:=e;dsimp only;rw[if_neg (by simp),aY]
   simp_all
end Go.Plain
end
section
namespace Go.Plain
open Go.Abs
def kI(F:List aE)(n:Int):aE:=(F[n.toNat]?).getD bV
def cT(F:List aE)(l:List Int)(need:aE):Int:=(l.map λn=>dH (kI F n) need).sum
def IK(left c:Int):Int:=if left<c then left else c
def plS(F:List aE)(need:aE)(x:Int×List cO)(n:Int):Int×List cO:=
 if IK x.1 (dH (kI F n) need)=0 then x else (x.1-IK x.1 (dH (kI F n) need),x.2++[{ Node:=n,aM:=IK x.1 (dH (kI F n) need) }])
def sJ(F:List aE)(need:aE)(l:List Int)(many:Int):Int×List cO:=l.foldl (plS F need) (many,[])
def DA(F:List aE)(l:List Int)(many:Int)(need:aE):List cO×Bool:=if many<1\/cT F l need<many then ([],false) else ((sJ F need l many).2,true)
theorem zx{F:List aE}{n:Int}(b:0<=n)(h:n<F.length):∃a:n.toNat<F.length,aC F n=some (kI F n)/\kI F n=F[n.toNat]'a:=by grind [EL,kI]
structure px (F:List aE) (l:List Int):Prop where
 yh:l.length<=300
 node:∀n∈l,0<=n/\n<F.length
 XZ:∀n∈l,aN (kI F n)
section
variable{F:List aE}{l:List Int}{need:aE}(hP:px F l)(hn:aN need)(hz:need≠bV)
include hP hn
theorem pd{n:Int}(h:n∈l):0<=dH (kI F n) need/\dH (kI F n) need<=64:=Q_ (hP.XZ n h) hn
theorem Zw:0<=cT F l need/\cT F l need<=64 * l.length:=by
 have:∀(m:List Int),(∀x∈m,x∈l)->0<=cT F m need/\cT F m need<=64 * m.length:=by
  intro m;induction m with
  |nil=>grind [cT]
  |cons x m ih=>
   intro h;have b:=ih λy a=>h y (pN _ a);have:=pd hP hn (h x (tD ..))
   grind [cT]
 simp_all
include hz
theorem XT{n:Int}(h:n∈l):qN 5000 F n need=some (dH (kI F n) need):=by have hb:=hP.node n h;obtain ⟨_,e,_⟩:=zx hb.1 hb.2;unfold qN;rw[if_neg (by simp_all),e,aw,count (hP.XZ n h) hn hz,aw]
theorem zn{i:Nat}(hi:i<l.length):cT F (l.take (i+1)) need=cT F (l.take i) need+dH (kI F l[i]) need:=by grind [List.take_succ_eq_append_getElem,cT]
theorem zc{i:Nat}:0<=cT F (l.take i) need/\cT F (l.take i) need<=64 * 300:=by
 have h:=Zw (F:=F) (l:=l.take i) (need:=need) ⟨by grind [px.yh],λn h=>hP.node n (O_ h),λn h=>hP.XZ n (O_ h)⟩ hn
 grind [px.yh]
theorem WU:sy 5000 F l need=some (cT F l need):=by
 have hl:=hP.yh;unfold sy;refine bO.eq (jm l.length (λi x=>x=(cT F (l.take i) need,(i:Int))) (λi x f hi a d=>?_) (λx f a=>?_) (by simp[cT]) (by omega))
 ·subst a;have c:=pd hP hn (bH hi);have b:=zc hP hn hz (i:=i);dsimp only;rw[if_pos (cK hi),bX hi,aw,XT hP hn hz (bH hi),aw,bT (show i<1000000 by omega),wr (by omega) (by omega)]
  grind [zn]
 ·subst a;dsimp only;rw[if_neg (by simp),aY,xO]
theorem pf_room:zeF 5000 F l need=some (cT F l need):=by
 have hl:=hP.yh;unfold zeF;refine bO.eq (jm l.length (λi x=>x=(cT F (l.take i) need,(i:Int))) (λi x f hi a d=>?_) (λx f a=>?_) (by simp[cT]) (by omega))
 ·subst a;have c:=pd hP hn (bH hi);have b:=zc hP hn hz (i:=i);have hb:=hP.node _ (bH hi);obtain ⟨_,e,_⟩:=zx hb.1 hb.2;simp only[dV];rw[if_pos (cK hi)];simp only[bX hi,aw];rw[if_pos (by simp_all),if_pos (by simp_all),e,aw,Cm (hP.XZ _ (bH hi)) hn hz,aw,bT (show i<1000000 by omega),wr (by omega) (by omega)]
  grind [zn]
 ·subst a;dsimp only;rw[if_neg (by simp),aY,xO]
theorem vh{i:Nat}(hi:i<l.length)(many:Int):sJ F need (l.take (i+1)) many=plS F need (sJ F need (l.take i) many) l[i]:=by grind [sJ,List.take_succ_eq_append_getElem]
theorem Sw{many:Int}(hm:1<=many/\many<=100000)(i:Nat):(0<=(sJ F need (l.take i) many).1/\(sJ F need (l.take i) many).1<=many)/\(sJ F need (l.take i) many).2.length<=i:=by
 induction i with
 |zero=>grind [sJ]
 |succ i ih=>
  by_cases hi:i<l.length
  ·have c:=pd hP hn (bH hi);rw[vh hP hn hz hi];unfold plS;by_cases q:IK (sJ F need (l.take i) many).1 (dH (kI F l[i]) need)=0
   ·grind
   ·rw[if_neg q]
    grind [IK]
  grind [List.take_of_length_le]
theorem Np{many:Int}(i:Nat)(h:(sJ F need (l.take i) many).1=0):(sJ F need l many).2=(sJ F need (l.take i) many).2:=by
 have:∀n,sJ F need (l.take (i+n)) many=sJ F need (l.take i) many:=by
  intro n;induction n with
  |zero=>rfl
  |succ n ih=>
   by_cases hi:i+n<l.length
   ·have c:=pd hP hn (bH hi);rw[<-yC6,vh hP hn hz hi,ih];unfold plS IK
    grind
   grind [List.take_of_length_le]
 have:=this l.length
 grind [List.take_of_length_le]
theorem Xw{many:Int}(hm:many<=100000):zeK 5000 F l many need=some (DA F l many need):=by
 have hl:=hP.yh;unfold zeK DA;simp only[dV];by_cases g:many<1
 ·simp_all
 rw[if_neg (by simp_all),WU hP hn hz,aw];by_cases j:cT F l need<many
 ·simp_all
 rw[if_neg (by simp_all),if_neg (by omega)];refine bO.eq (jm l.length (λi x=>x=((sJ F need (l.take i) many).1,(i:Int),(sJ F need (l.take i) many).2)) (λi x f hi a b=>?_) (λx f a=>?_) (by simp[sJ]) (by omega))
 ·subst a;have c:=pd hP hn (bH hi);have d:=Sw hP hn hz (many:=many) ⟨by omega,hm⟩ i;have st:=vh hP hn hz hi many;dsimp only;rw[if_pos (cK hi),bX hi,aw,XT hP hn hz (bH hi),aw,bx];refine ⟨λh=>?_,λh=>?_⟩
  ·grind [aY,Np]
  ·rw[bT (show i<1000000 by omega)];unfold plS at st;rw[bx];refine ⟨λh=>?_,λh=>?_⟩
   ·rw[if_pos (show IK _ _=0 by grind [IK])] at st
    simp_all
   ·rw[if_neg (show ¬IK _ _=0 by grind [IK])] at st;rw[Cj (by grind),aw];have e:i64.wrap ((sJ F need (l.take i) many).1-(if (sJ F need (l.take i) many).1<dH (kI F l[i]) need then (sJ F need (l.take i) many).1 else dH (kI F l[i]) need))=(sJ F need (l.take i) many).1-IK (sJ F need (l.take i) many).1 (dH (kI F l[i]) need):=by
     grind [IK,wr]
    rw[e];exact b _ (by rw[st];rfl)
 ·subst a;dsimp only;rw[if_neg (by simp),aY,xO]
theorem Xe{many:Int}(hm:many<=100000):zca 5000 F l many need=some (DA F l many need):=by
 have hl:=hP.yh;unfold zca DA;simp only[dV];by_cases j:many<1
 ·simp_all
 rw[if_neg (by simp_all),pf_room hP hn hz,aw];by_cases k:cT F l need<many
 ·simp_all
 rw[if_neg (by simp_all),if_neg (by omega)];refine bO.eq (jm l.length (λi x=>x=((sJ F need (l.take i) many).1,(i:Int),(sJ F need (l.take i) many).2)) (λi x f hi b m=>?_) (λx f b=>?_) (by simp[sJ]) (by omega))
 ·subst b;have c:=pd hP hn (bH hi);have d:=Sw hP hn hz (many:=many) ⟨by omega,hm⟩ i;have st:=vh hP hn hz hi many;have hb:=hP.node _ (bH hi);obtain ⟨_,e,_⟩:=zx hb.1 hb.2;dsimp only;rw[bx];refine ⟨λh=>?_,λh=>?_⟩
  ·simp only[bK,bB] at h;rw[bX hi,aw,if_neg (by simp_all),aw,if_neg (by simp_all),aw,e,aw,Cm (hP.XZ _ (bH hi)) hn hz,aw,bT (show i<1000000 by omega)];unfold plS IK at st;rw[bx];refine ⟨λa=>?_,λa=>?_⟩
   ·simp only[bB] at a;rw[if_pos (show (sJ F need (l.take i) many).1<dH (kI F l[i]) need from a),if_neg (by omega)] at st;rw[if_pos (by simp_all),aw,Cj (by grind),aw,wr (x:=_-_) (by omega) (by omega)]
    simp_all
   ·simp only[bB] at a;rw[if_neg (show ¬(sJ F need (l.take i) many).1<dH (kI F l[i]) need from a)] at st;rw[wr (x:=_-_) (by omega) (by omega)];by_cases g:dH (kI F l[i]) need=0
    ·simp_all
    ·rw[if_neg g] at st;rw[if_pos (by grind),aw,Cj (by grind),aw]
     simp_all
  ·rw[aY,Np hP hn hz i]
   grind
 ·subst b;dsimp only;rw[if_neg (by simp),aY,xO]
end
theorem KV{F G:List aE}{l:List Int}(h:∀n∈l,kI F n=kI G n)(many:Int)(need:aE):DA F l many need=DA G l many need:=by
 have a:cT F l need=cT G l need:=by grind [cT,List.map_congr_left]
 have b:∀(m:List Int)(x:Int×List cO),(∀n∈m,n∈l)->m.foldl (plS F need) x=m.foldl (plS G need) x:=by
  intro m;induction m with
  |nil=>simp_all
  |cons n m ih=>grind [plS]
 grind [DA,sJ]
theorem Uy{a b need:aE}(k:aN a)(hb:aN b)(hn:aN need)(h:yj a b):dH a need<=dH b need:=by
 have f:=wz k hn;have m:=wz hb hn;rcases yC4 (dH b need) (dH a need) with q | q
 ·obtain ⟨p,g,d⟩:=m.max (by have:=f.hi;omega);have e:∀(x y:Int×Int),x.2=y.2->x.1<=y.1->0<=y.2->x∈Gy a need->y.1<(dH b need+1) * y.2->False:=λx y r s n o d=>by
   have:=f.fit x o;have t:(dH b need+1) * y.2<=dH a need * y.2:=yAW (by omega) n
   grind
  have f0:=h 0;have f1:=h 1;have i:=h 2;have j:=h 3;simp only[cmp] at f0 f1 i j;have:=hn.GK;have:=hn.mem;have:=hn.Jz;have:=hn.Lw;simp only[Gy,gB,MV,MR] at g;rcases g with rfl | rfl | rfl | rfl
  ·exact (e (a.bF,need.bF) (b.bF,need.bF) rfl f0 (by omega) (by simp[Gy]) d).elim
  ·exact (e (a.Mem,need.Mem) (b.Mem,need.Mem) rfl f1 (by omega) (by simp[Gy]) d).elim
  ·exact (e (a.bJ,need.bJ) (b.bJ,need.bJ) rfl i (by omega) (by simp[Gy]) d).elim
  ·exact (e (a.bL,need.bL) (b.bL,need.bL) rfl j (by omega) (by simp[Gy]) d).elim
 omega
theorem QO{F G:List aE}{l:List Int}{need:aE}(d:px F l)(e:px G l)(hn:aN need)(h:∀n∈l,yj (kI F n) (kI G n)):cT F l need<=cT G l need:=by
 have:∀(m:List Int),(∀x∈m,x∈l)->cT F m need<=cT G m need:=by
  intro m;induction m with
  |nil=>grind [cT]
  |cons x m ih=>
   intro b;have g:=ih λy f=>b y (pN _ f);have a:=b x (tD ..);have:=Uy (d.XZ x a) (e.XZ x a) hn (h x a)
   grind [cT]
 simp_all
theorem Co{F:List aE}{l:List Int}{many:Int}{need:aE}:(DA F l many need).2=true↔1<=many/\many<=cT F l need:=by grind [DA]
end Go.Plain
end
section
namespace Go.Plain
open Go.Abs
def tA(j:aJ):Bool:=(j.State == 3) || (j.State == 4)
theorem hasJ_lt{j:aJ}(h:tA j=true):j.State<5:=by simp only[tA,gC,mV] at h;omega
structure eX (s:a_) (st:bZ) (j:aJ) (a:bG):Prop where
 Gk:a.aS=j.Id
 need:a.ay=j.ay
 iR:jH s j a.ae
 now:st.aQ<j.Start+j.aR
def lj(F:List aE)(a:bG):List aE:=F.mapIdx (qk a)
theorem ze1{F:List aE}{a:bG}:(lj F a).length=F.length:=by simp[lj]
theorem nE{F:List aE}{a:bG}{i:Nat}(h:i<(lj F a).length):(lj F a)[i]=qk a i (F[i]'(by grind [ze1])):=by simp[lj]
theorem rS.eq{F G:List aE}{a:bG}(h:rS F a G):G=lj F a:=
 yCq (by rw[h.len,ze1]) λi j o=>by rw[h.dg i j,nE o]
theorem ve{F:List aE}{a:bG}(h:v_ F a):∀r∈lj F a,aN r:=λr b=>by obtain ⟨i,hi,rfl⟩:=jV b;rw[nE hi];exact h i _
def eL(s:a_)(st:bZ):List aJ->List bG->List aE->Prop
 |[],A,_=>A=[]
 |j::H,A,F=>∃a b,A=a::b/\eX s st j a/\v_ F a/\eL s st H b (lj F a)
def gZ(s:a_)(st:bZ):Prop:=eL s st (st.ai.filter tA) st.ah s.aj
theorem eL.mem{s:a_}{st:bZ}{H:List aJ}{A:List bG}{F:List aE}(h:eL s st H A F):∀a∈A,∃j∈H,eX s st j a:=by
 induction H generalizing A F with
 |nil=>intro a i;rw[show A=[] from h] at i;cases i
 |cons j H ih=>
  obtain ⟨b,o,rfl,u,x,z⟩:=h
  grind
theorem gZ.mem{s:a_}{st:bZ}(h:gZ s st):∀a∈st.ah,∃j∈st.ai,eX s st j a:=λa i=>by
 obtain ⟨j,o,u⟩:=eL.mem h a i
 grind
theorem Ud{α:Type}{M:List (Int×α)}{k:Int}{a:α}{b:Int}:dh (jR M k a) b=if k=b then some a else dh M b:=by
 induction M with
 |nil=>simp[jR,dh]
 |cons p M ih=>
  obtain ⟨q,v⟩:=p;simp only[jR];split
  ·grind [Go.Abs.dh]
  ·rename_i e;simp only[dh,ih]
   grind
theorem BA{s:a_}(hs:lz s)(k:bo s):QN 5000 s=some true:=by obtain ⟨r,e,h⟩:=sm s hs;rw[e,h.2 k]
theorem Jb{l:List aE}(h:l.length<=1000000):za7 5000 l=some l:=by simp only[za7,yI h]
theorem FW{s:a_}(hs:lz s)(k:bo s):zcR 5000 s=some (.inr ([],s.aj)):=by have:=hs.nodes;simp only[zcR,BA hs k,aw,Pb,bU,cu,Jb (show s.aj.length<=1000000 by omega)]
theorem Tc{l:List cO}(h:1<=kK l):l≠[]:=λe=>by grind [kK]
structure AInv (s:a_) (st:bZ) (i:Nat) (x:(List bG)×Int×(List aE)×List (Int×bG)):Prop where
 ix:x.2.1=(i:Int)
 iff:gZ s st↔eL s st ((st.ai.drop i).filter tA) x.1 x.2.2.1
 len:x.2.2.1.length=s.aj.length
 XZ:∀r∈x.2.2.1,aN r
 keys:∀q,dh x.2.2.2 q≠none->∃m,∃h:m<st.ai.length,m<i/\st.ai[m].Id=q
 sub:∀a∈x.1,a∈st.ah
 yh:x.1.length<=300
theorem Ec{s:a_}(k:bo s){st:bZ}(z:lX s st)(J:dw s st):fD (zeG 5000 s st) (gZ s st):=by
 have hl:=z.bn;have hn:=z.spec.nodes;unfold zeG;rw[FW z.spec k,aw];dsimp only;refine jm st.ai.length (AInv s st) (λi x f hi Q hr=>?_) (λx f Q=>?_) ⟨rfl,by simp[gZ],rfl,k.nodes.ok,λq h=>absurd rfl h,λa R=>R,z.b_⟩ (by omega)
 ·obtain ⟨o,x1,F,M⟩:=x;obtain ⟨p,d,t,n,g,j,u⟩:=Q;dsimp only at p d t n g j u;subst p;rw[yBR hi] at d;have ji:=J.each _ (bH hi);have N:=ji.ok;have up:∀q,(∃m,∃h:m<st.ai.length,m<i/\st.ai[m].Id=q)->∃m,∃h:m<st.ai.length,m<i+1/\st.ai[m].Id=q:=λq ⟨m,h,U,A⟩=>⟨m,h,by omega,A⟩;simp only[dV,ee,cK hi,if_true,bX hi,aw,bT (show i<1000000 by omega)];rw[bx];refine ⟨λh=>hr _ ⟨rfl,?_,t,n,λq hq=>up q (g q hq),j,u⟩,λh=>?_⟩
  ·have e:tA st.ai[i]=false:=by grind [tA]
   grind
  ·have e:tA st.ai[i]=true:=by simpa only[tA,gV,oT] using h
   rw[List.filter_cons_of_pos e] at d;have ab:=N.start;have ad:=N.wall;rw[wr (x:=st.ai[i].Start+st.ai[i].aR) (by omega) (by omega),bx];refine ⟨λU=>cX λq=>?_,λU=>?_⟩
   ·obtain ⟨a,E,rfl,G,-⟩:=d.1 q;have:=G.now
    grind
   ·simp only[gC,bB,mV,not_or] at U;cases o with
    |nil=>grind
    |cons a E=>
     have R:=j a (tD ..);have K:=z.shares a R;have W:aC (a::E) 0=some a:=by unfold aC;simp_all
     have sl:slice? (a::E) 1 ((a::E).length:Int)=some E:=by unfold slice?;rw[if_pos ⟨by omega,by omega,by omega⟩];simp
     simp only[W,sl,aw];rw[bx];refine ⟨λA=>?_,λA=>?_⟩
     ·refine cX λq=>?_;obtain ⟨X,y,Y,G,-⟩:=d.1 q
      grind [eX.Gk,gK,eX.need]
     ·simp only[gC,JC,ne_eq,not_or,Vt,gV,oT] at A;have eN:a.ay=st.ai[i].ay:=gK.1 A.2;refine (Ng z.spec k st.ai[i] a.ae (kL K (by decide))).bind λr Z=>?_;rw[bx];refine ⟨λh3=>?_,λh3=>?_⟩
      ·refine cX λq=>?_;obtain ⟨X,y,Y,G,-⟩:=d.1 q
       grind [eX.iR]
      ·simp only[gV,oT] at h3;have S:=Z.1 h3;have P:eX s st st.ai[i] a:=⟨A.1,eN,S,by omega⟩;have T:v_ F a->vM M F a:=λhf=>⟨by have:=N.id;omega,Tc (by have:=N.many;have:=S.Sm;omega),by grind [jH.shares],by grind [fy.need],by
        cases hm:dh M a.aS with
        |none=>rfl
        |some v=>obtain ⟨m,af,aa,ak⟩:=g a.aS (by simp_all);have:=J.bM.lt aa hi;omega,hf⟩
       refine (KP (M:=M) (a:=a) (F:=F) (by omega) (kL K (by decide)) n).bind λr2 L=>?_;rw[bx];refine ⟨λO=>cX λq=>?_,λO=>?_⟩
       ·obtain ⟨X,y,Y,G,hf,-⟩:=d.1 q
        simp_all
       ·simp only[JC,ne_eq,Vt] at O;have tk:=L.1.1 O;obtain ⟨eM,bh⟩:=L.2 O;have eF:=bh.eq;refine hr _ ⟨rfl,?_,?_,?_,λq hq=>?_,λb hb=>j b (pN _ hb),?_⟩
        ·rw[d];dsimp only;rw[eF];constructor
         ·rintro ⟨X,y,Y,G,hf,w⟩
          simp_all
         ·intro w;exact ⟨a,E,rfl,P,tk.fits,w⟩
        ·grind [ze1]
        ·grind [ve,vM.fits]
        ·grind [Ud]
        grind
 ·obtain ⟨o,x1,F,M⟩:=x;obtain ⟨p,d,t,n,g,j,u⟩:=Q;dsimp only at p d;subst p;rw[List.drop_length] at d;simp only[ed,bU,cu,aY,mV];rw[d];constructor
  ·intro h;exact Zv (by omega)
  ·intro h;rw[show o=[] from h];rfl
end Go.Plain
end
section
namespace Go.Plain
open Go.Abs
structure OneB (n:Int) (b:iH):Prop where
 id:1<=b.Id/\b.Id<=281474976710656
 node:0<=b.Node/\b.Node<n
 lo:0<=b.bQ
 span:b.bQ<b.To
 hi:b.To<=1099511627776
structure uY (b:iH) (node p q:Int):Prop where
 node:b.Node=node
 span:b.bQ<b.To
 pq:p<q
 l:b.bQ<q
 r:p<b.To
structure QD (l:List iH) (n:Int) (i:Nat) (b:iH):Prop where
 one:OneB n b
 up:∀x (h:x<l.length),x<i->l[x].Id<b.Id/\¬uY l[x] b.Node b.bQ b.To
structure Ay (l:List iH) (n:Int):Prop where
 len:l.length<=16
 each:∀i (h:i<l.length),QD l n i l[i]
theorem Fw(l:List iH)(node p q:Int)(hl:l.length<=300):fD (fW 5000 l node p q) (∃b∈l,uY b node p q):=by
 simp only[fW];refine vo l (λ_ b=>¬uY b node p q) (λi f hi _ a=>?_) (λf h=>?_) (by omega)
 ·simp only[cK hi,if_true,bX hi,aw,bT (show i<1000000 by omega),bx];have e:decide ((if p > l[i].bQ then p else l[i].bQ)<(if q<l[i].To then q else l[i].To))=true↔l[i].bQ<l[i].To/\p<q/\l[i].bQ<q/\p<l[i].To:=by
   grind
  rw[bK,e,mV];exact ⟨λh=>qR ⟨_,bH hi,⟨h.1,h.2.1,h.2.2.1,h.2.2.2.1,h.2.2.2.2⟩⟩,λh=>a λm=>h ⟨m.node,m.span,m.pq,m.l,m.r⟩⟩
 ·simp only[ed,bU,cu];exact cX λ⟨b,hb,d⟩=>DZ (A:=λb=>¬uY b node p q) h b hb d
theorem HQ(l:List iH)(node p q:Int)(hl:l.length<=300):fD (zbb 5000 l node p q) (∃b∈l,uY b node p q):=by
 simp only[zbb];refine vo l (λ_ b=>¬uY b node p q) (λi f hi _ a=>?_) (λf h=>?_) (by omega)
 ·simp only[cK hi,if_true,bX hi,aw,bT (show i<1000000 by omega),bx];simp only[bK,bB,mV];exact ⟨λh=>qR ⟨_,bH hi,⟨h.1.1.1.1,h.1.1.1.2,h.1.1.2,h.1.2,h.2⟩⟩,λh=>a λm=>h ⟨⟨⟨⟨m.node,m.span⟩,m.pq⟩,m.l⟩,m.r⟩⟩
 ·simp only[ed,bU,cu];exact cX λ⟨b,hb,d⟩=>DZ (A:=λb=>¬uY b node p q) h b hb d
theorem Xk(b:iH)(n:Int):fD (rU 5000 b n) (OneB n b):=by simp only[rU,fD,aY,bK,bB];exact ⟨λh=>⟨by omega,by omega,by omega,by omega,by omega⟩,λh=>by have:=h.id;have:=h.node;have:=h.lo;have:=h.span;have:=h.hi;omega⟩
theorem ref_one(b:iH)(n:Int):fD (ze4 5000 b n) (OneB n b):=by simp only[ze4,zbp,aw,fD,bx,aY,bK,bB];refine ⟨λa=>⟨λh=>⟨by omega,by omega,by omega,by omega,by omega⟩,λh=>by have:=h.id;have:=h.node;have:=h.lo;have:=h.span;have:=h.hi;omega⟩,λa=>⟨λh=>by simp at h,λh=>by have:=h.id;omega⟩⟩
theorem sC{α:Type}{l:List α}{i:Nat}(h:i<=l.length):slice? l 0 (i:Int)=some (l.take i):=by
 unfold slice?
 simp_all
theorem XL{l:List iH}{i:Nat}{P:iH->Prop}:(∃b∈l.take i,P b)↔∃x,∃h:x<l.length,x<i/\P l[x]:=by
 constructor
 ·grind [List.getElem_of_mem]
 ·rintro ⟨x,e,a,hp⟩;have d:x<(l.take i).length:=by grind
  refine ⟨(l.take i)[x],bH d,?_⟩
  simp_all
theorem Ez(l:List iH)(n:Int)(hl:l.length<=300):fD (nq 5000 l n) (Ay l n):=by
 unfold nq;rw[fD,bx];refine ⟨λh=>cX λq=>?_,λh=>?_⟩
 ·have:=q.len
  grind
 ·simp only[bB] at h;refine vo l (λi b=>QD l n i b) (λi f hi k v=>?_) (λf k=>?_) (by omega)
  ·have w:decide ((i:Int) > 0)=decide (0<i):=by simp
   simp only[dV,cK hi,if_true,bX hi,aw,bT (show i<1000000 by omega),w,sC (yCv hi)];refine (Xk l[i] n).bind λr j=>?_;rw[bx];refine ⟨λo=>cX λq=>?_,λo=>?_⟩
   ·have:=j.2 (q.each i hi).one
    simp_all
   ·simp only[gV,oT] at o;have O:=j.1 o;have fin:(∀x (h:x<l.length),x<i->l[x].Id<l[i].Id)->bO ((fW 5000 (l.take i) l[i].Node l[i].bQ l[i].To).bind λr=>if r=true then some false else f ((i+1:Nat):Int)) (λb=>b=true↔Ay l n):=λp=>by
     refine (Fw (l.take i) _ _ _ (by rw[DB];omega)).bind λr d=>?_;rw[XL] at d;rw[bx];refine ⟨λe=>cX λq=>?_,λe=>v ⟨O,λx g a=>⟨p x g a,λm=>e (d.2 ⟨x,g,a,m⟩)⟩⟩⟩;obtain ⟨x,g,a,m⟩:=d.1 e;exact ((q.each i hi).up x g a).2 m
    rw[bx];refine ⟨λe=>?_,λe=>?_⟩
    ·simp only[bB] at e;obtain ⟨m,rfl⟩:∃m,i=m+1:=⟨i-1,by omega⟩;have s:m<l.length:=by omega
     rw[wp1 (show m+1<1000000 by omega),bX s,aw,bx];refine ⟨λt=>cX λq=>?_,λt=>fin λx g a=>?_⟩
     ·have:=((q.each (m+1) hi).up m s (by omega)).1
      grind
     ·simp only[bB] at t;rcases Xd (yCx.1 a) with u | u
      ·have:=((k m s (by omega)).up x g u).1;omega
      simp_all
    simp_all
  ·simp only[ed,bU,cu];exact qR ⟨by omega,λi hi=>k i hi⟩
theorem Ut{α:Type}{l:List α}{i:Nat}(h:i<l.length):slice? l (i:Int) ((i+1:Nat):Int)=some [l[i]]:=by
 unfold slice?;rw[if_pos ⟨by omega,by omega,by omega⟩]
 grind [List.take_succ_eq_append_getElem,List.drop_eq_nil_of_le]
theorem ZW(l:List iH)(n:Int)(hl:l.length<=300):fD (zdX 5000 l n) (Ay l n):=by
 unfold zdX;refine vo l (λi b=>QD l n i b) (λi f hi o u=>?_) (λf o=>?_) (by omega)
 ·simp only[dV,cK hi,if_true,bX hi,aw,bT (show i<1000000 by omega)];refine (ref_one l[i] n).bind λr d=>?_;rw[bx];refine ⟨λj=>cX λq=>?_,λj=>?_⟩
  ·have:=d.2 (q.each i hi).one
   simp_all
  ·simp only[gV,oT] at j;have O:=d.1 j;refine jm i (λx y=>y=(x:Int)/\∀z (h:z<l.length),z<x->l[z].Id<l[i].Id/\¬uY l[z] l[i].Node l[i].bQ l[i].To) (λx y g k m v=>?_) (λy g m=>?_) ⟨rfl,λz h A=>by omega⟩ (by omega)
   ·obtain ⟨rfl,p⟩:=m;have a:x<l.length:=by omega
    simp only[cK k,if_true,bX a,aw,bT (show x<1000000 by omega)];rw[bx];refine ⟨λs=>cX λq=>?_,λs=>?_⟩
    ·have:=((q.each i hi).up x a k).1
     grind
    ·simp only[bB] at s;rw[Ut a,aw];refine (HQ [l[x]] _ _ _ (by simp)).bind λr e=>?_;simp only[Bp,exists_eq_left] at e;rw[bx];refine ⟨λt=>cX λq=>((q.each i hi).up x a k).2 (e.1 t),λt=>v _ ⟨rfl,λz hz w=>?_⟩⟩
     grind
   ·obtain ⟨rfl,p⟩:=m;simp only[ed,bU,cu];exact u ⟨O,p⟩
 ·simp only[ed,bU,cu,aY,bB];exact ⟨λh=>⟨by omega,λi hi=>o i hi⟩,λq=>by have:=q.len;omega⟩
def TX(st:bZ)(a:bG):Prop:=∀j∈st.ai,j.Id=a.aS->∀x∈a.ae,∀b∈st.aA,b.Node=x.Node->¬b.bQ<j.Start+j.aR
structure AH (s:a_) (st:bZ):Prop where
 cA:Ay st.aA s.aj.length
 live:∀b∈st.aA,b.Id<st.cR/\st.aQ<b.To
 uB:∀a∈st.ah,TX st a
theorem NI{s:a_}{st:bZ}(t:lX s st)(J:dw s st)(A:gZ s st):fD (iF 5000 s st) (AH s st):=by
 have hb:=t.cA;have hj:=t.bn;have T:=t.b_;unfold iF;refine (Ez st.aA _ (by omega)).bind λr u=>?_;rw[bx];refine ⟨λv=>cX λq=>?_,λv=>?_⟩
 ·grind [AH.cA]
 ·simp only[gV,oT] at v;have B:=u.1 v;refine vo st.aA (λi b=>b.Id<st.cR/\st.aQ<b.To) (λi f hi _ w=>?_) (λf Q=>?_) (by omega)
  ·simp only[cK hi,if_true,bX hi,aw,bT (show i<1000000 by omega)];rw[bx];simp only[gC,bB];exact ⟨λU=>cX λq=>by have:=q.live _ (bH hi);omega,λU=>w (by omega)⟩
  ·simp only[ed,bU,cu];refine vo st.ah (λi a=>TX st a) (λi f hi _ w=>?_) (λf W=>?_) (by omega)
   ·simp only[cK hi,if_true,bX hi,aw,bT (show i<1000000 by omega)];have z:=bH hi;have X:=t.shares _ z;obtain ⟨j,d,P⟩:=A.mem _ z;have k:=J.each j d;have Y:=k.ok.id;have Z:=k.ok.start;have jw:=k.ok.wall;refine (Sr (by omega) J.bM (id:=st.ah[i].aS) (by have:=P.Gk;omega) J.ids).bind λr2 n=>?_;rw[n.1.2 ⟨j,d,P.Gk.symm⟩,if_neg (by simp)];have h:=n.2 (n.1.2 ⟨j,d,P.Gk.symm⟩);obtain ⟨E,aa⟩:=r2;dsimp only at h ⊢;obtain ⟨G,e⟩:=EL (l:=st.ai) h.lo (by have:=h.lo;have:=h.hi;omega);have ej:st.ai[E.toNat]=j:=by
     obtain ⟨m,o,rfl⟩:=jV d;have:=J.bM.inj G o (by rw[h.is,P.Gk])
     simp_all
    rw[ej] at e;rw[e];simp only[aw];rw[wr (x:=j.Start+j.aR) (by omega) (by omega)];have pn:=P.now;refine vo st.ah[i].ae (λ_ x=>∀b∈st.aA,b.Node=x.Node->¬b.bQ<j.Start+j.aR) (λm g o _ hg=>?_) (λg hG=>?_) (by omega)
    ·simp only[cK o,if_true,bX o,aw,bT (show m<1000000 by omega)];refine (Fw st.aA _ _ _ (by omega)).bind λr3 p=>?_;rw[bx];refine ⟨λK=>cX λq=>?_,λK=>hg λb hb hn hf=>K (p.2 ⟨b,hb,?_⟩)⟩
     ·obtain ⟨b,hb,R⟩:=p.1 K;exact q.uB _ z j d P.Gk.symm _ (bH o) b hb R.node R.l
     ·obtain ⟨y,S,rfl⟩:=jV hb;have:=Q y S;exact ⟨hn,(B.each y S).one.span,pn,hf,this.2⟩
    ·simp only[ed,bU,cu];refine w λL M N x G b hb=>?_;have:L=j:=by
      obtain ⟨m,o,rfl⟩:=jV d;obtain ⟨m',O,rfl⟩:=jV M;have:=J.bM.inj O o (by rw[N,P.Gk])
      simp_all
     subst this;exact DZ (A:=λx=>∀b∈st.aA,b.Node=x.Node->¬b.bQ<L.Start+L.aR) hG x G b hb
   ·simp only[ed,bU,cu];exact qR ⟨B,DZ Q,DZ W⟩
structure bg (s:a_) (st:bZ):Prop where
 spec:bo s
 nums:Pf s st
 bn:dw s st
 waits:∀j∈st.ai,IF s st j
 b_:gZ s st
 ju:AH s st
 use:Ms s st
theorem Ey{s:a_}{st:bZ}(a:lX s st):fD (fZ 5000 s st) (bg s st):=by
 unfold fZ;have step:∀{o:Option Bool}{P:Prop}{k:Option Bool},fD o P->(bg s st->P)->(P->fD k (bg s st))->fD (o.bind λr=>if r=true then k else some false) (bg s st):=λe b f=>e.bind λr d=>bx.2 ⟨λh=>f (d.1 h),λh=>cX λq=>h (d.2 (b q))⟩
 refine step (sm s a.spec) (λq=>q.spec) λk=>?_;refine step (PY k st) (λq=>q.nums) λe=>?_;refine step (jobs_ok k a) (λq=>q.bn) λb=>?_;refine step (Qo k a b) (λq=>q.waits) λf=>?_;refine step (Ec k a b) (λq=>q.b_) λg=>?_;refine step (NI a b g) (λq=>q.ju) λi=>?_;refine (XV a).bind λr d=>?_;rw[aY,d];exact ⟨λj=>⟨k,e,b,f,g,i,j⟩,λq=>q.use⟩
end Go.Plain
end
section
namespace Go.Plain
open Go.Abs
def cP(A:List bG)(i:Int)(c:Nat):Int:=(A.map λa=>dL a.ae i * cmp c a.ay).sum
theorem zdO{a:bG}{A:List bG}{i:Int}{c:Nat}:cP (a::A) i c=dL a.ae i * cmp c a.ay+cP A i c:=by simp[cP]
theorem nR{A:List bG}{k:Nat}(h:k<A.length)(i:Int)(c:Nat):cP (A.take (k+1)) i c=cP (A.take k) i c+dL A[k].ae i * cmp c A[k].ay:=by grind [List.take_succ_eq_append_getElem,cP]
def yH(n:Int)(A:List bG):Prop:=∀a∈A,bm a.ae n/\aN a.ay
theorem Yr{n:Int}{a:bG}(h:bm a.ae n/\aN a.ay)(i:Int)(c:Nat):0<=dL a.ae i * cmp c a.ay/\dL a.ae i * cmp c a.ay<=67108864:=
 iC (sq h.1 i) (wB.1 h.2 c)
theorem wQ{n:Int}{A:List bG}(h:yH n A)(i:Int)(c:Nat):0<=cP A i c/\cP A i c<=67108864 * A.length:=by
 induction A with
 |nil=>simp[cP]
 |cons a A ih=>
  have d:=ih λb hb=>h b (pN _ hb);have e:=Yr (h a (tD ..)) i c
  grind [zdO]
def Ev(F:List aE)(A:List bG):Prop:=∀i (h:i<F.length) c,cP A i c<=cmp c F[i]
theorem HF{a:aE}{n:Int}(b:aN a)(hn:0<=n/\n<=64):zcd 5000 a n=some (mulR n a):=by
 obtain ⟨m,rfl⟩:∃m:Nat,n=(m:Int):=⟨n.toNat,by omega⟩;unfold zcd;refine bO.eq (jm m (λk x=>x=((k:Int),(k:Int) * a.bF,(k:Int) * a.Mem,(k:Int) * a.bJ,(k:Int) * a.bL)) (λk x f hk d o=>?_) (λx f d=>?_) (by simp) (by omega))
 ·subst d;have g:=iC (n:=((k+1:Nat):Int)) (by omega) b.GK;have h:=iC (n:=((k+1:Nat):Int)) (by omega) b.mem;have i:=iC (n:=((k+1:Nat):Int)) (by omega) b.Jz;have j:=iC (n:=((k+1:Nat):Int)) (by omega) b.Lw;have e:∀x:Int,((k+1:Nat):Int) * x=(k:Int) * x+x:=λx=>by grind
  rw[e] at g h i j;simp only[cK hk,if_true,Wo,aw,bT (show k<1000000 by omega)]
  grind [wr]
 ·subst d;simp only[ed,bU,cu,aY];rfl
theorem WH(a b:aE):fD (OU 5000 a b) (∀c,cmp c a<=cmp c b):=by
 simp only[OU,fD,aY,bK,bB];constructor
 ·intro h c
  match c with
  |0=>exact h.1.1.1
  |1=>exact h.1.1.2
  |2=>exact h.1.2
  |_+3=>exact h.2
 ·intro h;exact ⟨⟨⟨h 0,h 1⟩,h 2⟩,h 3⟩
theorem Oi{F:List aE}{A:List bG}(Q:F.length<=300)(R:A.length<=300)(hs:∀a∈A,a.ae.length<=300){n:Int}(h:yH n A):bO (zeH 5000 F A) λr=>r.2=true↔Ev F A:=by
 unfold zeH;refine jm F.length (λi x=>(x.1=true↔∀m (h:m<F.length),m<i->∀c,cP A m c<=cmp c F[m])/\x.2.1=(i:Int)/\x.2.2.length=i) (λi x f hi j w=>?_) (λx f j=>?_) ⟨⟨λ_ m h S=>by omega,λ_=>rfl⟩,rfl,rfl⟩ (by omega)
 ·obtain ⟨E,G,o⟩:=x;obtain ⟨d,b,p⟩:=j;dsimp only at d b p;subst b;simp only[cK hi,if_true];refine jm A.length (λk y=>y=((k:Int),cP (A.take k) i 0,cP (A.take k) i 1,cP (A.take k) i 2,cP (A.take k) i 3)) (λk y g hk s K=>?_) (λy g s=>?_) (by simp[cP]) (by omega)
  ·subst s;have t:=h _ (bH hk);have e:yH n (A.take (k+1)):=λa L=>h a (O_ L);have lk:((A.take (k+1)).length:Int)<=300:=by grind
   have M:=wQ e i 0;have N:=wQ e i 1;have O:=wQ e i 2;have P:=wQ e i 3;rw[nR hk] at M N O P;simp only[cK hk,if_true,bX hk,aw,QJ (hs _ (bH hk)) t.1,HF t.2 (sq t.1 i),Wo,bT (show k<1000000 by omega)];refine K _ ?_;rw[nR hk,nR hk,nR hk,nR hk];have T:(mulR (dL A[k].ae i) A[k].ay).bF=dL A[k].ae i * cmp 0 A[k].ay:=rfl;have U:(mulR (dL A[k].ae i) A[k].ay).Mem=dL A[k].ae i * cmp 1 A[k].ay:=rfl;have W:(mulR (dL A[k].ae i) A[k].ay).bJ=dL A[k].ae i * cmp 2 A[k].ay:=rfl;have X:(mulR (dL A[k].ae i) A[k].ay).bL=dL A[k].ae i * cmp 3 A[k].ay:=rfl
   grind [wr]
  ·subst s;have ap:∀z:aE,bP o [z]=some (o++[z]):=λz=>Cj (by grind);simp only[ed,bU,cu,dV,bX hi,aw,zck,ap,bT (show i<1000000 by omega),xO];rw[bx];refine ⟨λu=>?_,λu=>?_⟩
   ·refine (WH _ _).bind λr v=>?_;refine w _ ⟨?_,rfl,by simp_all⟩;dsimp only;rw[v];have Y:∀c,cmp c ({ bF:=cP A i 0,Mem:=cP A i 1,bJ:=cP A i 2,bL:=cP A i 3 }:aE)=cP A i (min c 3):=λc=>by
     match c with
     |0=>rfl
     |1=>rfl
     |2=>rfl
     |c+3=>rw[Nat.min_eq_right (by omega)];rfl
    have Z:∀c,cP A i (min c 3)=cP A i c:=λc=>by
     match c with
     |0=>rfl
     |1=>rfl
     |2=>rfl
     |c+3=>rw[Nat.min_eq_right (by omega)];rfl
    grind
   grind
 ·obtain ⟨E,G,o⟩:=x;obtain ⟨d,b,p⟩:=j;dsimp only at d b p;subst b;simp only[ed,bU,cu,aY];rw[d];exact ⟨λq i hi c=>q i hi hi c,λq i hi _ c=>q i hi c⟩
structure Tw (s:a_) (st:bZ) (i:Nat) (a:bG):Prop where
 up:∀m (h:m<st.ah.length),m+1=i->st.ah[m].aS<a.aS
 Gk:∃j∈st.ai,j.Id=a.aS
 shares:bm a.ae s.aj.length
 need:aN a.ay
structure XY (s:a_) (st:bZ):Prop where
 each:∀i (h:i<st.ah.length),Tw s st i st.ah[i]
 fit:Ev s.aj st.ah
theorem XY.EY{s:a_}{st:bZ}(h:XY s st):yH s.aj.length st.ah:=λa j=>by obtain ⟨i,hi,rfl⟩:=jV j;exact ⟨(h.each i hi).shares,(h.each i hi).need⟩
theorem Qj{s:a_}{st:bZ}(d:lX s st):fD (zdD 5000 s st) (XY s st):=by
 have hl:=d.bn;have u:=d.b_;have hn:=d.spec.nodes;unfold zdD;refine vo st.ah (λi a=>Tw s st i a) (λi f hi p v=>?_) (λf p=>?_) (by omega)
 ·have K:decide ((i:Int) > 0)=decide (0<i):=by simp
  have w:=d.shares _ (bH hi);have fin:(∀m (h:m<st.ah.length),m+1=i->st.ah[m].aS<st.ah[i].aS)->bO ((OP 5000 st.ai st.ah[i].aS).bind λr=>
    if decide (r<0)=true then some false else (zbo 5000 st.ah[i].ae (s.aj.length:Int)).bind λz=>
    if (!z)=true then some false else (Zb 5000 st.ah[i].ay).bind λg=>if (!g)=true then some false else f ((i+1:Nat):Int)) (λb=>b=true↔XY s st):=λx=>by
   refine (qE (by omega) st.ah[i].aS).bind λr k=>?_;rw[bx];refine ⟨λh=>cX λq=>?_,λh=>?_⟩
   ·have:=k.1.2 (q.each i hi).Gk
    simp_all
   ·simp only[bB] at h;refine (Cs _ _ (kL w (by decide))).bind λz n=>?_;rw[bx];refine ⟨λh=>cX λq=>?_,λt=>?_⟩
    ·have:=n.2 (q.each i hi).shares
     simp_all
    ·simp only[gV,oT] at t;refine (wM _).bind λg o=>?_;rw[bx];refine ⟨λh=>cX λq=>?_,λA=>?_⟩
     ·have:=o.2 (q.each i hi).need
      simp_all
     ·simp only[gV,oT] at A;exact v ⟨x,k.1.1 (by omega),n.1 t,o.1 A⟩
  simp only[dV,cK hi,if_true,bX hi,aw,bT (show i<1000000 by omega),K];rw[bx];refine ⟨λh=>?_,λh=>?_⟩
  ·simp only[bB] at h;obtain ⟨m,rfl⟩:∃m,i=m+1:=⟨i-1,by omega⟩;rw[wp1 (show m+1<1000000 by omega),bX (show m<st.ah.length by omega),aw,bx];refine ⟨λt=>cX λq=>?_,λt=>fin λM L e=>?_⟩
   ·have:=(q.each (m+1) hi).up m (by omega) rfl
    grind
   simp_all
  simp_all
 ·simp only[ed,bU,cu];have G:yH s.aj.length st.ah:=λa y=>by
   obtain ⟨j,E,rfl⟩:=jV y;exact ⟨(p j E).shares,(p j E).need⟩
  refine (Oi (by omega) u (λa y=>kL (d.shares a y) (by decide)) G).bind λr v=>?_;rw[aY,v];exact ⟨λh=>⟨λi hi=>p i hi,h⟩,λh=>h.fit⟩
theorem Qb{l:List Int}(h:∀i (h:i+1<l.length),l[i]<l[i+1]):l.Pairwise (·<·):=by
 rw[yBg];intro i j hi b a;induction j with
 |zero=>omega
 |succ j ih=>grind
theorem asc_eq{l m:List Int}(hl:l.Pairwise (·<·))(hm:m.Pairwise (·<·))(h:∀x,x∈l↔x∈m):l=m:=by
 induction l generalizing m with
 |nil=>
  cases m with
  |nil=>rfl
  |cons y m=>grind [List.mem_cons_self]
 |cons x l ih=>
  cases m with
  |nil=>grind
  |cons y m=>
   rw[yBw] at hl hm;have e:x=y:=by
    rcases gB.1 ((h x).1 (tD ..)) with e | a
    ·exact e
    ·rcases gB.1 ((h y).2 (tD ..)) with e | b
     ·omega
     grind
   grind
theorem oZ{s:a_}{st:bZ}{H:List aJ}{A:List bG}{F:List aE}(h:eL s st H A F)(f:∀r∈F,aN r):A.map (·.aS)=H.map (·.Id)/\Ev F A:=by
 induction H generalizing A F with
 |nil=>rw[show A=[] from h];exact ⟨rfl,λi hi c=>by grind [cP,wB,List.getElem_mem]⟩
 |cons j H ih=>
  obtain ⟨a,g,rfl,k,b,d⟩:=h;obtain ⟨m,e⟩:=ih d (ve b);refine ⟨by grind [eX.Gk],λi hi c=>?_⟩;have:=e i (by grind [ze1]) c;rw[nE,qk,Dz,B_] at this
  grind [zdO]
theorem LY{s:a_}{st:bZ}{n:Int}{H:List aJ}{A:List bG}{F:List aE}(d:A.map (·.aS)=H.map (·.Id))(t:∀r∈F,aN r)(g:∀a∈A,∀j∈H,a.aS=j.Id->eX s st j a)(h:yH n A)(m:Ev F A):eL s st H A F:=by
 induction H generalizing A F with
 |nil=>
  cases A with
  |nil=>rfl
  |cons a A=>cases d
 |cons j H ih=>
  cases A with
  |nil=>cases d
  |cons a A=>
   rw[tX,tX] at d;have e:a.aS=j.Id:=by simp_all
   have f:A.map (·.aS)=H.map (·.Id):=by simp_all
   have u:=h a (tD ..);have o:yH n A:=λb hb=>h b (pN _ hb);have fa:v_ F a:=λi hi=>wB.2 λc=>by have p:=m i hi c;have v:=Yr u i c;have w:=wQ o i c;have x:=wB.1 (t _ (bH hi)) c;rw[zdO] at p;rw[qk,Dz,B_];omega
   refine ⟨a,A,rfl,g a (tD ..) j (tD ..) e,fa,ih f (ve fa) (λb hb k hk=>g b (pN _ hb) k (pN _ hk)) o λi hi c=>?_⟩;have p:=m i (by grind [ze1]) c;rw[nE,qk,Dz,B_]
   grind [zdO]
theorem Kj{s:a_}{st:bZ}(J:dw s st):((st.ai.filter tA).map (·.Id)).Pairwise (·<·):=by
 have h:(st.ai.map (·.Id)).Pairwise (·<·):=Qb λi hi=>by rw[Wu,Wu];exact J.bM i (by simp_all)
 grind
structure Xp (s:a_) (st:bZ) (j:aJ):Prop where
 has:(∃a∈st.ah,a.aS=j.Id)↔tA j=true
 XI:∀a∈st.ah,a.aS=j.Id->eX s st j a
theorem Gf{s:a_}{st:bZ}(k:bo s)(J:dw s st)(A:gZ s st):XY s st/\∀j∈st.ai,Xp s st j:=by
 obtain ⟨o,p⟩:=oZ A k.nodes.ok;have pw:=Kj J;rw[<-o] at pw;have Cq:∀j∈st.ai,∀f∈st.ai,j.Id=f.Id->j=f:=λj b f d e=>by
  obtain ⟨m,n,rfl⟩:=jV b;obtain ⟨t,g,rfl⟩:=jV d;have:=J.bM.inj n g e
  simp_all
 refine ⟨⟨λi hi=>?_,p⟩,λj b=>⟨⟨λ⟨a,h,e⟩=>?_,λr=>?_⟩,λa h e=>?_⟩⟩
 ·obtain ⟨j,b,P⟩:=A.mem _ (bH hi);refine ⟨λm n e=>?_,⟨j,b,P.Gk.symm⟩,P.iR.shares,by rw[P.need];exact (J.each j b).ok.need⟩
  grind [List.pairwise_iff_getElem]
 ·have:a.aS∈st.ah.map (·.aS):=iS.2 ⟨a,h,rfl⟩
  grind
 ·have:j.Id∈(st.ai.filter tA).map (·.Id):=iS.2 ⟨j,RI.2 ⟨b,r⟩,rfl⟩
  grind
 ·obtain ⟨f,d,P⟩:=A.mem a h
  grind [eX.Gk]
theorem Zl{s:a_}{st:bZ}(k:bo s)(J:dw s st)(R:XY s st)(h:∀j∈st.ai,Xp s st j):gZ s st:=by
 have pw:(st.ah.map (·.aS)).Pairwise (·<·):=Qb λi hi=>by rw[Wu,Wu];exact (R.each (i+1) (by simp_all)).up i (by grind) rfl
 refine LY (n:=s.aj.length) (asc_eq pw (Kj J) λx=>⟨λf=>?_,λf=>?_⟩) k.nodes.ok (λa d j b e=>(h j (RI.1 b).1).XI a d e) R.EY R.fit
 ·obtain ⟨a,d,rfl⟩:=iS.1 f;obtain ⟨i,hi,rfl⟩:=jV d;obtain ⟨j,b,e⟩:=(R.each i hi).Gk;exact iS.2 ⟨j,RI.2 ⟨b,(h j b).has.1 ⟨_,d,e.symm⟩⟩,e⟩
 ·obtain ⟨j,b,rfl⟩:=iS.1 f;obtain ⟨a,d,e⟩:=(h j (RI.1 b).1).has.2 (RI.1 b).2
  grind
end Go.Plain
end
section
namespace Go.Plain
open Go.Abs
structure rN (u:BZ) (n:Int):Prop where
 shares:bm u.ae n
 yh:u.ae.length<=300
 need:aN u.ay
 lo:0<=u.bQ
 hi:u.To<=281474976710656
def kg(u:BZ)(k t:Int):aE:=if u.bQ<=t/\t<u.To then mulR (dL u.ae k) u.ay else bV
def ba(L:List BZ)(k t:Int):aE:=L.foldl (λr u=>Ca r (kg u k t)) bV
theorem nK(L:List BZ)(u:BZ)(k t:Int):ba (L++[u]) k t=Ca (ba L k t) (kg u k t):=by simp[ba]
def Fv(B:List iH)(k t:Int):Prop:=∃b∈B,b.Node=k/\b.bQ<=t/\t<b.To
open Classical in
noncomputable def bI(q:gR)(k t:Int):aE:=if Fv q.aA k t then bV else fA (kI q.S.aj k) (ba q.L k t)
structure sf (q:gR):Prop where
 spec:bo q.S
 now:0<=q.aQ/\q.aQ<=1099511627776
 cA:Ay q.aA q.S.aj.length
 used:∀u∈q.L,rN u q.S.aj.length
 yh:q.L.length<=100
theorem pf_add{a b:aE}(d:∀c,0<=cmp c a/\cmp c a<=1099511627776)(hb:∀c,0<=cmp c b/\cmp c b<=1099511627776):Wo 5000 a b=some (Ca a b):=by
 unfold Wo Ca;have e:=hb 0;have f:=hb 1;have g:=hb 2;have h:=hb 3;have i:=d 0;have j:=d 1;have k:=d 2;have m:=d 3
 grind [cmp,wr]
theorem pf_sub{a b:aE}(d:∀c,0<=cmp c a/\cmp c a<=1099511627776)(hb:∀c,0<=cmp c b/\cmp c b<=1099511627776):zck 5000 a b=some (fA a b):=by
 unfold zck fA;have e:=hb 0;have f:=hb 1;have g:=hb 2;have h:=hb 3;have i:=d 0;have j:=d 1;have k:=d 2;have m:=d 3
 grind [cmp,wr]
theorem T_(a b:aE):∃r,OU 5000 a b=some r:=⟨_,rfl⟩
theorem Ji{u:BZ}{n:Int}(h:rN u n)(k t:Int)(c:Nat):0<=cmp c (kg u k t)/\cmp c (kg u k t)<=67108864:=by
 unfold kg;split
 ·rw[B_];exact iC (sq h.shares k) (wB.1 h.need c)
 grind [OO]
theorem IS(a:aE):Ca a bV=a:=dW λc=>by rw[wH,OO];omega
theorem HI{L:List BZ}{n:Int}(h:∀u∈L,rN u n)(k t:Int)(c:Nat)(i:Nat):0<=cmp c (ba (L.take i) k t)/\cmp c (ba (L.take i) k t)<=67108864 * i:=by
 induction i with
 |zero=>simp[ba,OO]
 |succ i ih=>
  by_cases hi:i<L.length
  ·rw[Ib hi,nK,wH];have:=Ji (h _ (bH hi)) k t c;omega
  grind [List.take_of_length_le]
section
variable{q:gR}(hq:sf q)
include hq
theorem XE(k t:Int):zbT 5000 q k t=some (ba q.L k t):=by
 have hl:=hq.yh;unfold zbT;refine bO.eq (jm q.L.length (λi x=>x=((i:Int),(ba (q.L.take i) k t).bF,(ba (q.L.take i) k t).Mem,(ba (q.L.take i) k t).bJ,(ba (q.L.take i) k t).bL)) (λi x f hi a g=>?_) (λx f a=>?_) (by simp[ba,bV]) (by omega))
 ·subst a;have u:=hq.used _ (bH hi);have j:=HI hq.used k t;simp only[dV];rw[if_pos (cK hi),bX hi,aw,bT (show i<1000000 by omega)];have st:ba (q.L.take (i+1)) k t=Ca (ba (q.L.take i) k t) (kg q.L[i] k t):=by rw[Ib hi,nK]
  by_cases h:q.L[i].bQ<=t/\t<q.L[i].To
  ·rw[if_pos (by simp_all),QJ u.yh u.shares,aw,HF u.need (sq u.shares k),aw];have b:kg q.L[i] k t=mulR (dL q.L[i].ae k) q.L[i].ay:=by unfold kg;simp_all
   have d:=Ji u k t;rw[b] at d;have e:Wo 5000 ({ bF:=(ba (q.L.take i) k t).bF,Mem:=(ba (q.L.take i) k t).Mem,bJ:=(ba (q.L.take i) k t).bJ,bL:=(ba (q.L.take i) k t).bL }:aE) (mulR (dL q.L[i].ae k) q.L[i].ay)=some (Ca (ba (q.L.take i) k t) (mulR (dL q.L[i].ae k) q.L[i].ay)):=
    pf_add (λc=>by grind) (λc=>by grind)
   simp_all
  ·rw[if_neg (by simp_all)];have b:kg q.L[i] k t=bV:=by unfold kg;grind
   grind [IS]
 ·subst a;dsimp only;rw[if_neg (by simp),aY,xO]
theorem Yo(k:Int){t:Int}(d:0<=t):fD (zbb 5000 q.aA k t (i64.wrap (t+1))) (Fv q.aA k t):=by
 have hl:=hq.cA.len;refine (HQ q.aA k t _ (by omega)).mono λr h=>h.trans ?_;constructor
 ·rintro ⟨b,hb,m⟩;obtain ⟨i,hi,rfl⟩:=jV hb;have o:=(hq.cA.each i hi).one;refine ⟨_,hb,m.node,?_,m.r⟩;have e:=m.l;have f:=m.pq;have g:=m.r;have:=o.hi
  grind [wr]
 ·rintro ⟨b,hb,m1,j,a⟩;obtain ⟨i,hi,rfl⟩:=jV hb;have o:=(hq.cA.each i hi).one;have:=o.hi;have:=o.lo;exact ⟨_,hb,m1,by omega,by grind [wr],by grind [wr],a⟩
theorem TF{k:Nat}(hk:k<q.S.aj.length){t:Int}(b:0<=t):bO (zbv 5000 q k t) λr=>r.1=bI q k t:=by
 unfold zbv;rw[XE hq,aw];refine (Yo hq k b).bind λr a=>?_;unfold bI;by_cases h:Fv q.aA k t
 ·rw[if_pos h,if_pos (a.2 h)];obtain ⟨x,e⟩:=T_ (ba q.L k t) { bF:=0,Mem:=0,bJ:=0,bL:=0 };rw[e,aw,aY];rfl
 ·rw[if_neg h,if_neg λe=>h (a.1 e),bX hk,aw];have n:=hq.spec.nodes.ok _ (bH hk);have d:=HI hq.used k t;have hl:=hq.yh;rw[pf_sub (λc=>by grind [wB]) (λc=>by grind [List.take_length]),xk,xk];obtain ⟨x,e⟩:=T_ (ba q.L k t) q.S.aj[k];rw[e,aw,aY];have:kI q.S.aj k=q.S.aj[k]:=by grind [kI]
  rw[this]
end
def timeV(q:gR)(x:Int):Prop:=x=q.aQ\/(∃u∈q.L,x=u.bQ\/x=u.To)\/∃b∈q.aA,x=b.bQ\/x=b.To
structure D_ (q:gR) (T:List Int):Prop where
 bM:T.Pairwise λa b=>a<b
 mem:∀x,x∈T↔q.aQ<=x/\timeV q x
 len:T.length<=300
structure DJ (l:List Int) (now:Int) (T:List Int):Prop where
 bM:T.Pairwise λa b=>a<b
 mem:∀x,x∈T↔now<=x/\x∈l
 len:T.length<=l.length
theorem Ye(l:List Int)(hl:l.length<=300)(d:Int):bO (zcb 5000 l d) (DJ l d):=by
 unfold zcb;refine jm l.length (λi x=>x.2=(i:Int)/\DJ (l.take i) d x.1) (λi x f hi g u=>?_) (λx f g=>?_) ⟨rfl,by simp,by simp,by simp⟩ (by omega)
 ·obtain ⟨T,y⟩:=x;obtain ⟨rfl,k⟩:=g;dsimp only at k ⊢;have z:=k.len;rw[DB] at z;rw[if_pos (cK hi),dV];have r:l.take (i+1)=l.take i++[l[i]]:=Ib hi;have A:(l.take (i+1)).length=(l.take i).length+1:=by grind
  have same:DJ (l.take i) d T->(l[i]<d\/l[i]∈T)->DJ (l.take (i+1)) d T:=λh e=>⟨h.bM,λx=>by
   rw[r,mC,Bp,h.mem];constructor
   ·grind
   ·rintro ⟨a,b | b⟩
    ·grind
    ·subst b;rcases e with e | e
     ·omega
     ·exact (h.mem _).1 e,by grind⟩
  refine jm T.length (λj x=>x=(j:Int)/\∀m (v:m<T.length),m<j->T[m]<l[i]) (λj x E n g G=>?_) (λx E g=>?_) ⟨rfl,λm _ h=>by omega⟩ (by omega)
  ·obtain ⟨rfl,K⟩:=g;rw[dV,if_pos (cK n),bX n,aw,bX hi,aw,bx];refine ⟨λh=>?_,λh=>?_⟩
   ·simp only[bB] at h
    grind [bT]
   ·simp only[bB] at h;rw[dV,aw,bx];refine ⟨λe=>?_,λe=>?_⟩
    ·simp only[bB] at e;dsimp only;rw[if_pos rfl,bT (show i<1000000 by omega)]
     grind
    ·simp only[bB] at e;rw[if_pos (cK n),aw,aw,bx];refine ⟨λt=>?_,λt=>?_⟩
     ·simp only[mV] at t
      grind [bT]
     ·simp only[mV] at t;rw[sC (yCv n),aw,yI (by grind),aw,aw,Cj (by grind),aw,gu (yCv n),aw,Cj (by grind),aw,bT (show i<1000000 by omega)];have o:T=T.take j++T.drop j:=(Oc ..).symm;have p:=k.bM;rw[o] at p;obtain ⟨p1,L,N⟩:=OW.1 p;have O:∀x∈T.drop j,l[i]<x:=λx g=>by
       obtain ⟨m,v,rfl⟩:=OT.1 g
       grind [Nat.eq_zero_or_pos,List.pairwise_iff_getElem]
      have M:∀x∈T.take j,x<l[i]:=λx g=>by
       obtain ⟨m,v,rfl⟩:=OT.1 g
       grind
      refine u _ ⟨rfl,OW.2 ⟨OW.2 ⟨p1,by simp,λa w b hb=>by grind⟩,L,λa w b hb=>?_⟩,λx=>?_,?_⟩
      ·grind
      ·rw[r,mC (s:=l.take i),Bp];have:=k.mem x;rw[o,mC] at this;rw[mC,mC,Bp];constructor
       ·rintro ((a | a) | a)
        ·grind
        ·omega
        grind
       grind
      grind
  ·obtain ⟨rfl,K⟩:=g;rw[dV,if_neg (by simp)];dsimp only;rw[if_neg (by simp),dV,bX hi,aw,bx];refine ⟨λe=>?_,λe=>?_⟩
   ·simp only[bB] at e;dsimp only;rw[if_pos rfl,bT (show i<1000000 by omega)]
    grind
   ·simp only[bB] at e;rw[if_neg (by simp)];dsimp only;rw[if_neg (by simp)];rw[sC (cM _),aw,yI (by grind),aw,aw,Cj (by grind),aw,gu (cM _),aw,Cj (by grind),aw,bT (show i<1000000 by omega)];rw[xO,List.drop_length,FZ];refine u _ ⟨rfl,OW.2 ⟨k.bM,by simp,λa w b hb=>?_⟩,λx=>?_,by grind⟩
    ·grind [List.getElem_of_mem]
    ·rw[r,mC,Bp,mC,Bp,k.mem]
     grind
 ·obtain ⟨T,y⟩:=x;obtain ⟨rfl,k⟩:=g;dsimp only at k ⊢;rw[if_neg (by simp),aY]
  simp_all
theorem LQ{q:gR}(hq:sf q):bO (zbk 5000 q) (D_ q):=by
 have hl:=hq.yh;have hb:=hq.cA.len;unfold zbk;refine jm q.L.length (λi x=>x.1=(i:Int)/\x.2.length=1+2 * i/\∀y,y∈x.2↔y=q.aQ\/∃u∈q.L.take i,y=u.bQ\/y=u.To) (λi x f hi b g=>?_) (λx f b=>?_) ⟨rfl,rfl,λy=>by simp⟩ (by omega)
 ·obtain ⟨y,T⟩:=x;obtain ⟨rfl,e,a⟩:=b;dsimp only at e a ⊢;rw[if_pos (cK hi)];simp only[bX hi,aw];rw[Cj (by grind),aw,Cj (by grind),aw,bT (show i<1000000 by omega)];refine g _ ⟨rfl,by grind,λy=>?_⟩;rw[Ib hi];simp only[mC,Bp,a];constructor
  ·rintro (((h | ⟨u,h1,h2⟩) | h) | h)
   ·omega
   ·grind
   ·simp_all
   simp_all
  grind
 ·obtain ⟨y,m⟩:=x;obtain ⟨rfl,j,d⟩:=b;dsimp only at j d ⊢;rw[if_neg (by simp)];rw[xO] at d;refine jm q.aA.length (λi x=>x.1=(i:Int)/\x.2.length=m.length+2 * i/\∀y,y∈x.2↔y∈m\/∃u∈q.aA.take i,y=u.bQ\/y=u.To) (λi x f hi b g=>?_) (λx f b=>?_) ⟨rfl,rfl,λy=>by simp⟩ (by omega)
  ·obtain ⟨y,T⟩:=x;obtain ⟨rfl,e,a⟩:=b;dsimp only at e a ⊢;rw[if_pos (cK hi)];simp only[bX hi,aw];rw[Cj (by grind),aw,Cj (by grind),aw,bT (show i<1000000 by omega)];refine g _ ⟨rfl,by grind,λy=>?_⟩;rw[Ib hi];simp only[mC,Bp,a];constructor
   ·rintro (((h | ⟨u,h1,h2⟩) | h) | h)
    ·simp_all
    ·grind
    ·simp_all
    simp_all
   grind
  ·obtain ⟨y,T⟩:=x;obtain ⟨rfl,e,a⟩:=b;dsimp only at e a ⊢;rw[if_neg (by simp)];rw[xO] at a;refine (Ye T (by omega) q.aQ).bind λR k=>?_;rw[aY];refine ⟨k.bM,λx=>?_,by have:=k.len;omega⟩;rw[k.mem,a,d,or_assoc];rfl
end Go.Plain
end
section
namespace Go.Plain
open Go.Abs
theorem jn_ite{X R:Type}{r:X->Option R}{c:Prop}[Decidable c]{a b:X}:jn r (λj=>if c then j a else j b)=r (if c then a else b):=by grind [Go.Abs.jn]
theorem Sc{l:List cO}{n:Int}(h:bm l n){i:Int}:dL l i > 0↔∃x∈l,x.Node=i:=by
 have b:∀x∈l,1<=x.aM:=λx a=>(h.mem x a).2.2.1;clear h;induction l with
 |nil=>simp[dL]
 |cons y l ih=>
  have d:=ih λx a=>b x (pN _ a);have f:=b y (tD ..);have g:=yL (l:=l) (λx a=>by grind) i;have e:dL (y::l) i=(if y.Node=i then y.aM else 0)+dL l i:=by simp[dL]
  grind
def Ae(st:bZ)(node b:Int)(a:bG):Prop:=∃j∈st.ai,j.Id=a.aS/\(∃x∈a.ae,x.Node=node)/\b<j.Start+j.aR
theorem UL{s:a_}{st:bZ}(u:lX s st)(R:XY s st)(node d:Int):bO (zdW 5000 st node d) λb=>dw s st->(b=true↔∃a∈st.ah,Ae st node d a):=by
 have hl:=u.bn;have N:=u.b_;unfold zdW;refine vo st.ah (λi a=>dw s st->¬Ae st node d a) (λi f hi K v=>?_) (λf K=>?_) (by omega)
 ·simp only[dV,cK hi,if_true,bX hi,aw,bT (show i<1000000 by omega)];have t:=bH hi;refine (qE (by omega) st.ah[i].aS).bind λr w=>?_;rw[bx];refine ⟨λh=>?_,λh=>?_⟩
  ·simp only[bB] at h;have g:=w.2.1 h;have S:=(R.each i hi).shares;obtain ⟨L,e⟩:=EL (l:=st.ai) g.lo (by have:=g.lo;have:=g.hi;omega);have y:=bH L;have fin:bO (if decide (i64.wrap (st.ai[r.toNat].Start+st.ai[r.toNat].aR) > d)=true then some true else f ((i+1:Nat):Int)) (λb=>(∃x∈st.ah[i].ae,x.Node=node)->dw s st->(b=true↔∃a∈st.ah,Ae st node d a)):=by
    rw[bx];refine ⟨λk=>?_,λk=>?_⟩
    ·rw[aY];intro z J;have o:=(J.each _ y).ok;have:=o.start;have:=o.wall;rw[wr (by omega) (by omega)] at k;simp only[bB] at k;exact ⟨λ_=>⟨_,t,_,y,g.is,z,k⟩,λ_=>rfl⟩
    ·refine (v λJ E=>?_).mono λb hb _=>hb;obtain ⟨j,n,G,-,M⟩:=E;have:j=st.ai[r.toNat]:=by
      obtain ⟨m,O,rfl⟩:=jV n;have:=J.bM.inj O L (by rw[G,g.is])
      simp_all
     subst this;have o:=(J.each _ y).ok;have:=o.start;have:=o.wall;rw[wr (by omega) (by omega)] at k
     simp_all
   rw[QJ (kL (u.shares _ t) (by decide)) S,aw,e,bx];simp only[aw];refine ⟨λk=>?_,λk=>?_⟩
   ·simp only[bB] at k
    grind [Sc]
   ·simp only[bB] at k;rw[if_neg (by simp)];exact v λJ ⟨j,n,G,p,M⟩=>k ((Sc S).2 p)
  ·simp only[bB] at h;rw[if_neg (by simp)];exact v λJ ⟨j,n,G,p,M⟩=>by simp_all
 ·simp only[ed,bU,cu,aY,Gr];rintro J ⟨a,t,E⟩;exact DZ (A:=λa=>dw s st->¬Ae st node d a) K a t J E
theorem Ua{s:a_}{st:bZ}(v:lX s st)(R:XY s st):bO (zd0 5000 s st) λb=>dw s st->(b=true↔AH s st):=by
 have hl:=v.cA;unfold zd0;refine vo st.aA (λi b=>(b.Id<st.cR/\st.aQ<b.To)/\(dw s st->¬∃a∈st.ah,Ae st b.Node b.bQ a)) (λi f hi w g=>?_) (λf w=>?_) (by omega)
 ·simp only[dV,cK hi,if_true,bX hi,aw,bT (show i<1000000 by omega)];have hb:=bH hi;rw[bx];refine ⟨λh=>?_,λh=>?_⟩
  ·rw[aY];intro J;simp only[gC,bB] at h;simp only[bU,Gr];exact λq=>by have:=q.live _ hb;omega
  ·simp only[gC,bB] at h;refine (UL v R _ _).bind λr d=>?_;rw[bx];refine ⟨λk=>?_,λk=>g ⟨by omega,λJ=>λq=>k ((d J).2 q)⟩⟩;rw[aY];intro J;simp only[bU,Gr];intro q;obtain ⟨a,n,j,o,e,⟨x,p,t⟩,u⟩:=(d J).1 k;exact q.uB a n j o e x p _ hb t.symm u
 ·simp only[ed,bU,cu];refine (ZW _ _ (by omega)).bind λr g=>?_;rw[aY];intro J;rw[g];refine ⟨λh=>⟨h,λb hb=>?_,λa n j o e x p b hb t u=>?_⟩,λq=>q.cA⟩
  ·grind [List.getElem_of_mem]
  ·obtain ⟨m,y,rfl⟩:=jV hb;exact (w m y).2 J ⟨a,n,j,o,e,⟨x,p,t.symm⟩,u⟩
structure AtA (l:List bG) (id:Int) (r:Int):Prop where
 lo:0<=r
 hi:r.toNat<l.length
 is:l[r.toNat].aS=id
theorem We{l:List bG}(hl:l.length<=300)(id:Int):bO (zbZ 5000 l id) λr=>(0<=r↔∃a∈l,a.aS=id)/\(0<=r->AtA l id r):=by
 unfold zbZ;refine vo l (λ_ j=>j.aS≠id) (λi f h _ b=>?_) (λf h=>?_) (by omega)
 ·simp only[cK h,if_true,bX h,aw,bT (show i<1000000 by omega),bx,aY,mV];exact ⟨λe=>⟨⟨λ_=>⟨_,bH h,e⟩,λ_=>by omega⟩,λ_=>⟨by omega,by omega,by simp_all⟩⟩,λe=>b e⟩
 ·simp only[ed,bU,cu,aY];refine ⟨⟨λh=>by omega,λ⟨j,d,e⟩=>absurd e (DZ (A:=λj=>j.aS≠id) h j d)⟩,λh=>by omega⟩
theorem XY.Cq{s:a_}{st:bZ}(R:XY s st){i j:Nat}(hi:i<st.ah.length)(o:j<st.ah.length)(e:st.ah[i].aS=st.ah[j].aS):i=j:=by
 have pw:(st.ah.map (·.aS)).Pairwise (·<·):=Qb λi hi=>by rw[Wu,Wu];exact (R.each (i+1) (by simp_all)).up i (by grind) rfl
 grind [List.pairwise_iff_getElem]
structure Qa (s:a_) (st:bZ) (j:aJ):Prop where
 OV:iT s st j
 waits:IF s st j
 has:Xp s st j
theorem ref_job{s:a_}(k:bo s){st:bZ}(t:lX s st)(R:XY s st){j:aJ}(T:j∈st.ai):fD (zfd 5000 s st j) (Qa s st j):=by
 have kv:=k.uj;have hl:=t.bn;have E:=t.b_;unfold zfd;refine (yp j (t.after j T)).bind λr u=>?_;rw[bx];refine ⟨λh=>cX λq=>?_,λh=>?_⟩
 ·have:=u.2 q.OV.ok;rw[this] at h;simp only[gC,bB,Pb,bU,false_or] at h;have:=q.OV.next;have:=q.OV.user;have:=q.OV.queue;have:=q.OV.born;have:=q.OV.start;have:=q.OV.fin;omega
 ·simp only[gC,bB,not_or,gV,oT] at h;have p:=u.1 h.1.1.1.1.1.1;have U:=p.state.st;have X:=p.start;have Y:=p.wall;simp only[jn_ite];generalize Z:(if decide (j.State≥5)=true then (3:Int) else if (j.State == 4)=true then 2 else if (j.State == 3)=true then 1 else 0)=e;have ev:e=jB j.State:=by
   rw[<-Z];simp only[jB,bB,mV,ge_iff_le];omega
  have eb:=Ew j.State;refine (We E j.Id).bind λr8 v=>?_;simp only[dV,ze5,aw];rw[ev,wr (x:=s.aI+jB j.State) (by omega) (by omega),bx];refine ⟨λO=>cX λq=>?_,λO=>?_⟩
  ·have:=q.OV.version
   grind
  ·simp only[bB] at O;have I:iT s st j:=⟨p,by omega,by omega,by omega,by omega,by omega,by omega,by omega⟩;have eh:((j.State == 3) || (j.State == 4))=tA j:=rfl;rw[eh,bx];refine ⟨λh3=>cX λq=>?_,λh3=>?_⟩
   ·have:=q.has.has
    simp_all
   ·have n:(∃a∈st.ah,a.aS=j.Id)↔tA j=true:=by
     grind
    rw[bx];refine ⟨λG=>qR ?_,λG=>?_⟩
    ·simp only[bB] at G;refine ⟨I,λhs=>by omega,n,λa A e=>?_⟩
     grind
    ·simp only[bB] at G;have A:=p.kR;refine vo j.aF (λ_ d=>∃i∈st.ai,i.Id=d.aS) (λm g w P hr=>?_) (λg P=>?_) (by omega)
     ·simp only[cK w,if_true,bX w,aw,bT (show m<1000000 by omega)];refine (qE (by omega) j.aF[m].aS).bind λr y=>?_;rw[bx];refine ⟨λz=>cX λq=>?_,λz=>hr (y.1.1 ?_)⟩
      ·have:=y.1.2 ((q.waits (by omega)).after _ (bH w))
       simp_all
      simp_all
     ·simp only[ed,bU,cu];obtain ⟨b,e1,e2⟩:=SZ t.spec k (q:=j.Queue) (m:=j.aM) p.need p.vI;rw[e2,aw,bx];refine ⟨λz=>cX λq=>?_,λz=>?_⟩
      ·have:=(q.waits (by omega)).fits
       simp_all
      ·simp only[gV,oT] at z;subst z;have W:IF s st j:=λ_=>⟨e1,DZ P⟩;rw[bx];refine ⟨λK=>qR ⟨I,W,n,λa A e=>?_⟩,λK=>?_⟩
       ·simp_all
       ·simp only[gV,oT] at K;have r0:=v.1.2 (n.2 K);have f:=v.2 r0;obtain ⟨Q,e3⟩:=EL (l:=st.ah) f.lo (by have:=f.lo;have:=f.hi;omega);have o:=bH Q;rw[wr (x:=j.Start+j.aR) (by omega) (by omega),e3,bx];simp only[aw];refine ⟨λL=>?_,λL=>cX λq=>?_⟩
        ·simp only[bB] at L;rw[bx];refine ⟨λM=>?_,λM=>cX λq=>M (gK.2 (q.has.XI _ o f.is).need)⟩;have eN:=gK.1 M;refine (FR t.spec k j _ (kL (t.shares _ o) (by decide))).bind λr N=>?_;rw[aY,N];refine ⟨λS=>⟨I,W,n,λa A e=>?_⟩,λq=>(q.has.XI _ o f.is).iR⟩;have:a=st.ah[r8.toNat]:=by
          obtain ⟨m,w,rfl⟩:=jV A;have:=R.Cq w Q (by rw[e,f.is])
          simp_all
         subst this;exact ⟨e,eN,S,L⟩
        ·have:=(q.has.XI _ o f.is).now
         simp_all
theorem IQ{s:a_}{st:bZ}(b:lX s st):fD (zc3 5000 s st) (bg s st):=by
 have hl:=b.bn;have hq:=b.stamps;have S:=b.use;unfold zc3;simp only[dV];refine (Vx s b.spec).bind λr e=>?_;rw[bx];refine ⟨λh=>?_,λh=>?_⟩
 ·rw[if_pos trivial];refine cX λq=>?_;have:=e.2 q.spec;rw[this] at h;have T:=q.spec.ids;have:=q.nums.now;have:=q.nums.next;have:=q.nums.book;rw[wr (x:=s.kX+1) (by omega) (by omega)] at h
  grind
 ·simp only[gC,bB,not_or,gV,oT] at h;have k:=e.1 h.1.1.1.1.1;have T:=k.ids;rw[wr (x:=s.kX+1) (by omega) (by omega)] at h;refine (Kp st.cR).bind λr2 g=>?_;rw[bx];refine ⟨λw=>cX λq=>?_,λw=>?_⟩
  ·have:=g.2 (by have:=q.nums.book;omega)
   simp_all
  ·simp only[gV,oT] at w;have u2:=g.1 w;have W:Pf s st:=⟨by omega,by omega,by omega⟩;rw[bx];refine ⟨λO=>?_,λO=>?_⟩
   ·rw[if_pos trivial];refine cX λq=>?_;have:=q.bn.len
    grind
   ·simp only[bB] at O;refine (Qj b).bind λr4 y=>?_;rw[bx];refine ⟨λz=>?_,λz=>?_⟩
    ·rw[if_pos trivial];refine cX λq=>?_
     grind [Gf,bg.bn,bg.b_]
    ·simp only[gV,oT] at z;have R:=y.1 z;refine (Ua b R).bind λr5 A=>?_;rw[bx];refine ⟨λE=>?_,λE=>?_⟩
     ·rw[if_pos trivial];refine cX λq=>?_
      grind [bg.bn,bg.ju]
     ·simp only[gV,oT] at E;refine (ref_use st.gz s.aT (by omega)).bind λr6 n=>?_;rw[bx];refine ⟨λu=>?_,λu=>?_⟩
      ·rw[if_pos trivial];refine cX λq=>?_;have:=n.2 ⟨q.use.len,q.use.use⟩;rw[this] at u;have:=q.use.qlen
       simp_all
      ·simp only[gC,JC,ne_eq,not_or,Vt,gV,oT] at u;have P:=n.1 u.1;refine (Kp st.az.aj).bind λr7 o=>?_;rw[bx];refine ⟨λG=>cX λq=>?_,λG=>?_⟩
       ·have:=o.2 q.use.nodes
        simp_all
       ·simp only[gV,oT] at G;have X:=o.1 G;refine vo st.az.am (λ_ x=>0<=x/\x<=281474976710656) (λi f hi _ v=>?_) (λf Y=>?_) (by omega)
        ·simp only[cK hi,if_true,bX hi,aw,bT (show i<1000000 by omega)];refine (Kp _).bind λr8 p=>?_;rw[bx];refine ⟨λZ=>cX λq=>?_,λZ=>v (p.1 (by simp_all))⟩;have:=p.2 (q.use.stamps _ (bH hi))
         simp_all
        ·simp only[ed,bU,cu];have U:Ms s st:=⟨P.1,P.2,by omega,X,DZ Y⟩;refine vo st.ai (λi j=>Qa s st j/\JG st.ai i<j.Id) (λi f hi _ v=>?_) (λf Q=>?_) (by omega)
         ·have hd:decide ((i:Int) > 0)=decide (0<i):=by simp
          have a:=bH hi;simp only[cK hi,if_true,bX hi,aw,bT (show i<1000000 by omega),hd];refine (ref_job k b R a).bind λr9 t=>?_;rw[bx];refine ⟨λK=>cX λq=>?_,λK=>?_⟩
          ·have:=t.2 ⟨q.bn.each _ a,q.waits _ a,(Gf k q.bn q.b_).2 _ a⟩
           simp_all
          ·simp only[gV,oT] at K;have L:=t.1 K;rw[bx];refine ⟨λd=>?_,λd=>?_⟩
           ·simp only[bB] at d;obtain ⟨m,rfl⟩:∃m,i=m+1:=⟨i-1,by omega⟩;rw[wp1 (show m+1<1000000 by omega),bX (show m<st.ai.length by omega),aw,bx];refine ⟨λM=>cX λq=>?_,λM=>v ⟨L,?_⟩⟩
            ·have:=q.bn.bM m hi
             grind
            ·rw[wy (by omega)]
             simp_all
           ·simp only[bB] at d;have:i=0:=by omega
            subst this;refine v ⟨L,?_⟩;have:=L.OV.ok.id
            grind [JG]
         ·simp only[ed,bU,cu];have N:dw s st:=SK (by omega) λi hi=>⟨(Q i hi).1.OV,(Q i hi).2⟩;have all:∀j∈st.ai,Qa s st j:=λj a=>by
           grind [List.getElem_of_mem]
          exact qR ⟨k,W,N,λj a=>(all j a).waits,Zl k N R λj a=>(all j a).has,(A N).1 E,U⟩
end Go.Plain
end
section
namespace Go.Plain
open Go.Abs
theorem ry{l:List Int}(h:l.length<=1000000):za1 5000 l=some l:=by unfold za1;exact yI h
theorem KK{s:a_}(hs:lz s):zc9 5000 s=some s:=by
 have e:=hs.nodes;have g:=hs.parts;have h:=hs.ij;unfold zc9;rw[Jb (by omega),aw,show zcB 5000 s.aH=some s.aH from yI (by omega),aw];refine bO.eq (jm s.aH.length (λi x=>x=((i:Int),s.aH)) (λi x f hi a b=>?_) (λx f a=>?_) rfl (by omega))
 ·subst a;have d:=hs.part _ (bH hi);simp only[cK hi,if_true,bX hi,aw,bT (show i<1000000 by omega),ry (show s.aH[i].length<=1000000 by omega),Int.toNat_natCast,yCh]
  simp_all
 ·subst a;simp only[ed,bU,cu];rw[show zbn 5000 s.am=some s.am from yI (by omega),aw];refine jm s.am.length (λi x=>x=((i:Int),s.am)) (λi x f hi a b=>?_) (λx f a=>?_) rfl (by omega)
  ·subst a;have d:=hs.queue _ (bH hi);simp only[cK hi,if_true,bX hi,aw,bT (show i<1000000 by omega),ry (show s.am[i].aT.length<=1000000 by omega),Int.toNat_natCast,yCh];exact b _ (Prod.ext rfl (yCh hi))
  ·subst a;simp only[ed,bU,cu,aY]
theorem Ux{n:Int}(h:1<=n/\n<=8):qd 5000 n=some (List.replicate n.toNat 0):=by simp only[qd,zcs];rw[if_neg (by grind),if_neg (by simp_all)];simp only[aw,Gv];rw[if_pos (by omega)];rfl
theorem VG{n:Int}(h:1<=n/\n<=256):zep 5000 n=some (.inr n):=by
 simp only[zep]
 simp_all
theorem new_ok{s:a_}(hs:lz s)(k:bo s):fL 5000 s=some (.inr (List.replicate s.am.length 0,[],s.aj,s.aH,s.am,s.aT,s.aq.mG,s.aq.de,s.aq.f_,s.aq.bW,s.cj,s.Mode,s.ai,s.kX,s.aI,s.br,s.dm,s.In,s.Out,s.ce,0,1,1,List.replicate s.aT.toNat 0,0,s.ai,s.aj)):=by have a:=hs.ij;unfold fL;rw[BA hs k,aw,if_neg (by simp),VG k.bn,aw];dsimp only;rw[FW hs k,aw];dsimp only;rw[KK hs,aw,Ux k.AX,aw];unfold Gv;rw[if_pos (by omega),aw];rw[yBL]
theorem DE{j:aJ}(h:j.aF.length<=1000000):jc 5000 j=some j:=by unfold jc;rw[show zaG 5000 j.aF=some j.aF from yI h];rfl
theorem LV{l:List aJ}(hl:l.length<=300)(b:∀j∈l,j.aF.length<=10):zcZ 5000 l=some l:=by
 unfold zcZ;rw[show zbP 5000 l=some l from yI (by omega),aw];refine bO.eq (jm l.length (λi x=>x=((i:Int),l)) (λi x f hi a d=>?_) (λx f a=>?_) rfl (by omega))
 ·subst a;have e:=b _ (bH hi);simp only[cK hi,if_true,bX hi,aw,bT (show i<1000000 by omega),DE (show l[i].aF.length<=1000000 by omega),Int.toNat_natCast,yCh]
  simp_all
 ·subst a;simp only[ed,bU,cu,aY]
def mapA(A:List bG):List (Int×bG):=A.map λa=>(a.aS,a)
def Az(A:List bG):Prop:=(A.map (·.aS)).Pairwise (·<·)
theorem YU{A:List bG}(h:Az A):∀i (hi:i<A.length),dh (mapA A) A[i].aS=some A[i]:=by
 induction A with
 |nil=>simp_all
 |cons a A ih=>
  unfold Az at h;rw[tX,yBw] at h;intro i hi
  match i,hi with
  |0,hi=>simp[mapA,dh]
  |i + 1, hi=>
   have b:i<A.length:=by simp_all
   have:=h.1 A[i].aS (iS.2 ⟨_,bH b,rfl⟩);have e:dh (mapA (a::A)) A[i].aS=dh (mapA A) A[i].aS:=by
    simp only[mapA,tX,dh]
    grind
   rw[List.getElem_cons_succ,e];exact ih h.2 i b
theorem Iq{A:List bG}{q:Int}(h:∀a∈A,a.aS≠q):dh (mapA A) q=none:=by
 induction A with
 |nil=>rfl
 |cons a A ih=>simp only[mapA,tX,dh];rw[if_neg (h a (tD ..))];exact ih λb hb=>h b (pN _ hb)
theorem aab{A:List bG}{a:bG}(h:∀b∈A,b.aS≠a.aS):jR (mapA A) a.aS a=mapA (A++[a]):=by
 induction A with
 |nil=>rfl
 |cons b A ih=>
  have:=ih λc d=>h c (pN _ d);simp only[mapA,Jd,tX,jR] at this ⊢
  simp_all
theorem i64wf{n:Int}(h:0<=n/\n<=1048576):(Lit.int .i64 n).wf=true:=by
 have a:IntKind.i64.min=-9223372036854775808:=by decide
 have b:IntKind.i64.max=9223372036854775807:=by decide
 simp only[Lit.wf,bK,bB,a,b];omega
theorem JJ{A:List bG}(hl:A.length<=300)(h:Az A)(i:∀a∈A,0<=a.aS/\a.aS<=1048576):Bh (λk=>k) (mapA A)=some (A.map (·.aS)):=by
 have e:(mapA A).map Prod.fst=A.map (·.aS):=by simp[mapA]
 unfold Bh;have b:∀p∈mapA A,(Lit.int .i64 p.1).wf=true:=λp d=>by
  obtain ⟨a,j,rfl⟩:=iS.1 d
  grind [i64wf]
 have f:(A.map (·.aS)).Nodup:=h.imp λh=>by omega
 have g:(mapA A).length<=1000000:=by grind [mapA]
 rw[e,if_pos ⟨g,f,b⟩,List.mergeSort_of_pairwise (h.imp λh=>by grind)];simp
theorem EJ{A:List bG}(hl:A.length<=300)(h:Az A)(g:∀a∈A,0<=a.aS/\a.aS<=1048576)(hs:∀a∈A,a.ae.length<=300):aZ 5000 (mapA A)=some A:=by
 unfold aZ;rw[JJ hl h g,aw];refine bO.eq (jm (A.map (·.aS)).length (λi x=>x=((i:Int),A.take i)) (λi x f hi d j=>?_) (λx f d=>?_) (by simp) (by grind))
 ·subst d;have b:i<A.length:=by simp_all
  have e:=YU h i b;have k:=hs _ (bH b);simp only[cK hi,if_true,bX hi,aw,bT (show i<1000000 by omega),Wu,e,oel,Ic (show A[i].ae.length<=1000000 by omega)]
  grind [Cj,List.take_succ_eq_append_getElem]
 ·subst d;simp only[ed,bU,cu,aY,yt,xO]
theorem CI{l:List iH}(h:l.length<=1000000):zaX 5000 l=some l:=by unfold zaX;exact yI h
theorem beq_dep(a:Gt):Gt.beq a a=true:=by simp[Gt.beq]
theorem Uu(a:cO):cO.beq a a=true:=by simp[cO.beq]
theorem beq_book(a:iH):iH.beq a a=true:=by simp[iH.beq]
theorem NP(a:aE):aE.beq a a=true:=gK.2 rfl
theorem lpT{α:Type}{b:(Int->Option Bool)->Int->Option Bool}(l:List α)(hs:∀(i:Nat)(f:Int->Option Bool)(h:i<l.length),b f (i:Int)=f ((i+1:Nat):Int))(a:∀f,b f (l.length:Int)=some true){N:Nat}(d:l.length<N):bC b N 0=some true:=
 bO.eq (vo l (λ_ _=>True) (λi f h _ e=>by simp_all) (λf _=>by rw[a];exact ⟨_,rfl,rfl⟩) d)
theorem wo(l:List Int)(hl:l.length<=300):zdf 5000 l l=some true:=by
 unfold zdf;rw[if_neg (by simp)];refine lpT l (λi f h=>?_) (λf=>?_) (by omega)
 ·simp only[cK h,if_true,bX h,aw,bT (show i<1000000 by omega),yCz,bU,cu]
 ·simp only[ed,bU,cu]
theorem Xi(j:aJ)(hl:j.aF.length<=300):zeI 5000 j j=some true:=by
 unfold zeI;rw[if_neg (by simp)];refine lpT j.aF (λi f h=>?_) (λf=>?_) (by omega)
 ·simp only[cK h,if_true,bX h,aw,bT (show i<1000000 by omega),beq_dep,Pb,bU,cu]
 ·simp only[ed,bU,cu,yCp,NP,Bool.and_self]
theorem IC(l:List aJ)(hl:l.length<=300)(a:∀j∈l,j.aF.length<=10):zeD 5000 l l=some true:=by
 unfold zeD;rw[if_neg (by simp)];refine lpT l (λi f h=>?_) (λf=>?_) (by omega)
 ·have:=a _ (bH h);simp only[cK h,if_true,bX h,aw,bT (show i<1000000 by omega),Xi l[i] (by omega),Pb,bU,cu]
 ·simp only[ed,bU,cu]
theorem NF(l:List cO)(hl:l.length<=300):zdk 5000 l l=some true:=by
 unfold zdk;rw[if_neg (by simp)];refine lpT l (λi f h=>?_) (λf=>?_) (by omega)
 ·simp only[cK h,if_true,bX h,aw,bT (show i<1000000 by omega),Uu,Pb,bU,cu]
 ·simp only[ed,bU,cu]
theorem CJ(l:List bG)(hl:l.length<=300)(b:∀a∈l,a.ae.length<=300):zeB 5000 l l=some true:=by
 unfold zeB;rw[if_neg (by simp)];refine lpT l (λi f h=>?_) (λf=>?_) (by omega)
 ·have:=b _ (bH h);simp only[dV,cK h,if_true,bX h,aw,bT (show i<1000000 by omega),yCz,NP,NF l[i].ae this,Pb,bU,cu]
 ·simp only[ed,bU,cu]
theorem Ge(l:List iH)(hl:l.length<=300):zeJ 5000 l l=some true:=by
 unfold zeJ;rw[if_neg (by simp)];refine lpT l (λi f h=>?_) (λf=>?_) (by omega)
 ·simp only[cK h,if_true,bX h,aw,bT (show i<1000000 by omega),beq_book,Pb,bU,cu]
 ·simp only[ed,bU,cu]
theorem QB{s:a_}{st:bZ}(a:lX s st):zbj 5000 st st=some true:=by have b:=a.bn;have d:=a.use;have e:=a.stamps;have f:=a.cA;unfold zbj;rw[if_pos (by simp),IC _ (by omega) a.after,aw,if_pos rfl,CJ _ a.b_ a.sh,aw,if_pos rfl,Ge _ (by omega),aw,if_pos rfl,wo _ (by omega),aw,if_pos rfl,wo _ (by omega),aw];simp
end Go.Plain
end
section
namespace Go.Plain
open Go.Abs
theorem Mn{l:List aJ}(h:bS l)(n:Nat):bS (l.take n):=λi hi=>by rw[DB] at hi;rw[RL,RL];exact h i (by omega)
theorem Z_{l:List aJ}(hl:l.length<=300)(hs:bS l){id:Int}(h:∀j∈l,j.Id<id):zaL 5000 l id=some ((l.length:Int),false):=by
 unfold zaL;have e:(bC (λb (a:Int×Int)=>
   if (decide (a.1<a.2))=true then
    (
     (aC l (i64.wrap (Int.fdiv (u64.wrap (i64.wrap (a.1+a.2))) (2 ^ 1)))).bind λd=>
     some (decide (d.Id≥id))).bind λg=>
    if (!g)=true then
     b ((i64.wrap ((i64.wrap (Int.fdiv (u64.wrap (i64.wrap (a.1+a.2))) (2 ^ 1)))+1)),a.2)
    else
     b (a.1,(i64.wrap (Int.fdiv (u64.wrap (i64.wrap (a.1+a.2))) (2 ^ 1))))
   else
    some a.1) 5000 (0,(l.length:Int)))=some (l.length:Int):=by
  refine bO.eq (half hl hs id (λj=>some (decide (j.Id<id))) (λj k=>rfl) (λi=>some i) (λi hi m n=>?_) _ (λf x=>?_))
  ·rw[aY];rcases Xd hi with q | q
   ·grind
   ·rw[q]
  grind
 simp_all
theorem put_ok{l:List aJ}{n:Nat}(hn:n<l.length)(hl:l.length<=300)(hs:bS l){m:Int}(hm:(l.length:Int)<=m)(a:fy l[n]):zb6 5000 (l.take n) l[n] m=some (l.take (n+1),0):=by
 obtain ⟨r,e,h⟩:=Cc l[n];have b:=h.2 a;subst b;have d:=a.kR;have f:(l.take n).length=n:=by grind
 unfold zb6;rw[e,aw,if_neg (by simp),Z_ (by omega) (Mn hs n) (λj a=>?_),aw]
 ·rw[if_neg (by simp),if_neg (by grind),DE (by omega),aw];unfold zbr;have sl:slice? (l.take n) ((l.take n).length:Int) ((l.take n).length:Int)=some []:=by
   unfold slice?
   simp_all
  rw[sl,aw,if_neg (by simp),if_pos (by simp),Cj (by grind),aw,aw,Ib hn]
 ·obtain ⟨i,hi,rfl⟩:=jV a;rw[RL];exact hs.lt (by omega) hn
def cD(F:List aE)(l:List bG):List aE:=l.foldl lj F
structure TInv (s:a_) (st:bZ) (i:Nat) (x:Int×(List aE)×List (Int×bG)):Prop where
 ix:x.1=(i:Int)
 h:∃H,eL s st H (st.ah.drop i) x.2.1
 len:x.2.1.length=s.aj.length
 XZ:∀r∈x.2.1,aN r
 m:x.2.2=mapA (st.ah.take i)
 fr:x.2.1=cD s.aj (st.ah.take i)
theorem Cu{s:a_}{st:bZ}(q:bg s st):Az st.ah:=by have h:=(oZ q.b_ q.spec.nodes.ok).1;unfold Az;rw[h];exact Kj q.bn
theorem HE{s:a_}{st:bZ}(q:bg s st):∀a∈st.ah,0<=a.aS/\a.aS<=1048576:=λa b=>by
 obtain ⟨j,d,P⟩:=q.b_.mem a b;have:=(q.bn.each j d).ok.id
 grind [eX.Gk]
theorem of_ok{s:a_}{st:bZ}(d:lX s st)(q:bg s st):dA 5000 s st=some (.inr (st.az.am,st.ai,(st.ah.map λa=>(a.aS,a)),s.aj,s.aH,s.am,s.aT,s.aq.mG,s.aq.de,s.aq.f_,s.aq.bW,s.cj,s.Mode,s.ai,s.kX,s.aI,s.br,s.dm,s.In,s.Out,s.ce,st.aQ,st.Next,st.cR,st.aA,st.gz,st.az.aj,s.ai,cD s.aj st.ah)):=by
 have hl:=d.bn;have R:=d.b_;have hn:=d.spec.nodes;have hb:=d.cA;have X:=d.use;have hs:=d.stamps;obtain ⟨r,e,h⟩:=Ey d;have k:=h.2 q;subst k;have S:=q.bn.len;have y:=Cu q;unfold dA;rw[e,aw,if_neg (by simp),new_ok d.spec q.spec,aw];dsimp only;refine bO.eq ?_;refine jm st.ai.length (λi x=>x=((i:Int),st.ai.take i)) (λi x f hi g k=>?_) (λx f g=>?_) rfl (by omega)
 ·subst g;simp only[cK hi,if_true,bX hi,aw,bT (show i<1000000 by omega),put_ok hi hl q.bn.bM S (q.bn.each _ (bH hi)).ok,yCz,bU,cu]
  simp_all
 ·subst g;simp only[ed,bU,cu];refine jm st.ah.length (TInv s st) (λi x f hi g k=>?_) (λx f g=>?_) ⟨rfl,⟨_,by rw[yC0];exact q.b_⟩,rfl,q.spec.nodes.ok,rfl,rfl⟩ (by omega)
  ·obtain ⟨U,F,M⟩:=x;obtain ⟨n,p,t,u,v,w⟩:=g;dsimp only at n p t u v w;subst n;have N:=bH hi;have A:=d.sh _ N;obtain ⟨H,E⟩:=p;rw[yBR hi] at E;obtain ⟨j,W,P⟩:=q.b_.mem _ N;have G:=(q.bn.each j W).ok;have K:v_ F st.ah[i]/\∃O,eL s st O (st.ah.drop (i+1)) (lj F st.ah[i]):=by
    cases H with
    |nil=>cases (show st.ah[i]::st.ah.drop (i+1)=[] from E)
    |cons Y O=>
     obtain ⟨Z,A',e',-,hf,k⟩:=E
     grind
   have Q:∀b∈st.ah.take i,b.aS≠st.ah[i].aS:=λb hb=>by
    obtain ⟨m,L,rfl⟩:=jV hb;rw[DB] at L;rw[RL];have:=yBg.1 y m i (by grind) (by simp_all) (by omega)
    grind
   have T:vM M F st.ah[i]:=⟨by have:=G.id;have:=P.Gk;omega,Tc (by have:=G.many;have:=P.iR.Sm;omega),by rw[t];exact P.iR.shares,by rw[P.need];exact G.need,by grind [Iq],K.1⟩;simp only[cK hi,if_true,bX hi,aw,bT (show i<1000000 by omega)];refine (KP (M:=M) (a:=st.ah[i]) (F:=F) (by omega) A u).bind λr o=>?_;have z:=o.1.2 T;obtain ⟨eM,bh⟩:=o.2 z;rw[z];simp only[yCz,bU,cu];refine k _ ⟨rfl,?_,?_,?_,?_,?_⟩
   ·grind [rS.eq]
   ·grind [rS.eq,ze1]
   ·grind [rS.eq,ve]
   ·grind [aab,List.take_succ_eq_append_getElem]
   grind [rS.eq,List.take_succ_eq_append_getElem,cD.eq_1]
  ·obtain ⟨U,F,M⟩:=x;obtain ⟨n,p,t,u,v,w⟩:=g;dsimp only at n p t u v w;subst n;simp only[ed,bU,cu];rw[show za8 5000 st.aA=some st.aA from yI (by omega),aw,show zbq 5000 st.gz=some st.gz from yI (by omega),aw,show zbq 5000 st.az.am=some st.az.am from yI (by omega),aw,aY];rw[v,w,xO,xO];rfl
theorem of_no{s:a_}{st:bZ}(a:lX s st)(q:¬bg s st):dA 5000 s st=some (.inl 2):=by
 obtain ⟨r,e,h⟩:=Ey a;have:r=false:=by simp_all
 grind [Go.Abs.dA]
theorem shown{s:a_}{st:bZ}(b:lX s st)(q:bg s st) :
  Qh 5000 st.az.am st.ai (st.ah.map λa=>(a.aS,a)) st.aQ st.Next st.cR st.aA st.gz st.az.aj=some st:=by
 have hl:=b.bn;have hb:=b.cA;have d:=b.use;have hs:=b.stamps;unfold Qh;rw[LV (by omega) b.after,aw,show aZ 5000 (st.ah.map λa=>(a.aS,a))=some st.ah from EJ b.b_ (Cu q) (HE q) b.sh,aw,CI (by omega),aw,ry (by omega),aw,show zb8 5000 st.az.am=some st.az.am from yI (by omega),aw]
theorem UB{s:a_}{st:bZ}(b:lX s st)(q:bg s st):bR 5000 s st=some (.inr (st.az.am,st.ai,(st.ah.map λa=>(a.aS,a)),true,s.aj,s.aH,s.am,s.aT,s.aq.mG,s.aq.de,s.aq.f_,s.aq.bW,s.cj,s.Mode,s.ai,s.kX,s.aI,s.br,s.dm,s.In,s.Out,s.ce,st.aQ,st.Next,st.cR,st.aA,st.gz,st.az.aj,s.ai,cD s.aj st.ah)):=by obtain ⟨r,d,h⟩:=IQ b;have e:=h.2 q;subst e;unfold bR;rw[of_ok b q,aw];dsimp only;rw[d,aw,if_neg (by simp),shown b q,aw,QB b,aw]
theorem VF{s:a_}{st:bZ}(a:lX s st)(q:¬bg s st):bR 5000 s st=some (.inl true):=by
 obtain ⟨r,b,h⟩:=IQ a;have:r=false:=by simp_all
 grind [Go.Abs.bR,of_no]
theorem rT{s:a_}(hs:lz s) :
  zaW 5000 s.aj s.aH s.am s.aT s.aq.mG s.aq.de s.aq.f_ s.aq.bW s.cj s.Mode s.ai s.kX s.aI s.br s.dm s.In s.Out s.ce=some s:=by
 unfold zaW;rw[show zc9 5000 _=some s from KK hs];rfl
end Go.Plain
end
section
namespace Go.Plain
open Go.Abs
theorem wD{l:List Int}{n:Int}(h:nz l n):(l.length:Int)<=n\/l=[]:=by
 have a:∀i,i<l.length->(i:Int)<=l[i]!:=by
  intro i;induction i with
  |zero=>
   intro hi;have:=(h 0 hi).1
   grind [Lv]
  |succ i ih=>
   intro hi;have b:=ih (by omega);have d:=(h (i+1) hi).1
   grind [qL]
 cases hl:l.length with
 |zero=>simp_all
 |succ m=>
  left;have b:=a m (by omega);have d:=(h m (by omega)).2
  grind
theorem kH{s:a_}(k:bo s):lz s:={
 nodes:=by have:=k.nodes.hi;omega
 parts:=by have:=k.parts.hi;omega
 ij:=by have:=k.ij.hi;omega
 part:=λp a=>by
  have b:=wD (k.parts.ok p a).2;have:=k.nodes.hi
  grind
 queue:=λq hq=>by
  have b:=wD (k.ij.ok q hq).AX;have:=k.AX
  grind }
theorem jh{l:List cO}{n:Int}(h:bm l n)(hn:0<=n):(l.length:Int)<=n:=by
 rcases wD h.node with a | a
 ·simp_all
 simp_all
theorem Ul{s:a_}{st:bZ}(q:bg s st):lX s st:={
 spec:=kH q.spec
 bn:=by have:=q.bn.len;have:=q.spec.bn;omega
 after:=λj b=>by have:=(q.bn.each j b).ok.kR;omega
 b_:=by have h:=(oZ q.b_ q.spec.nodes.ok).1;have d:=Fp List.length h;simp only[yt] at d;have f:(st.ai.filter tA).length<=st.ai.length:=List.length_filter_le _ _;have:=q.bn.len;have:=q.spec.bn;omega
 cA:=by have:=q.ju.cA.len;omega
 use:=by have:=q.use.len;have:=q.spec.AX;omega
 stamps:=by have:=q.use.qlen;have:=q.spec.ij.hi;omega
 shares:=λa e=>by obtain ⟨j,b,P⟩:=q.b_.mem a e;have g:=jh P.iR.shares (by omega);have:=q.spec.nodes.hi;omega }
end Go.Plain
end
section
namespace Go.Plain
open Go.Abs
theorem UV{u:BZ}{k t a:Int}(h:a<=t)(b:¬(a<u.bQ/\u.bQ<=t))(d:¬(a<u.To/\u.To<=t)):kg u k t=kg u k a:=by
 unfold kg
 grind
theorem Jq{L:List BZ}{k t a:Int}(h:∀u∈L,kg u k t=kg u k a):ba L k t=ba L k a:=by
 unfold ba;have:∀(M:List BZ)(r:aE),(∀u∈M,kg u k t=kg u k a)->M.foldl (λr u=>Ca r (kg u k t)) r=M.foldl (λr u=>Ca r (kg u k a)) r:=by
  intro M;induction M with
  |nil=>simp_all
  |cons u M ih=>simp_all
 simp_all
theorem CR{q:gR}{k t a:Int}(f:q.aQ<=a)(h:a<=t)(d:∀x,q.aQ<=x->timeV q x->¬(a<x/\x<=t)):bI q k t=bI q k a:=by
 have i:ba q.L k t=ba q.L k a:=Jq λu e=>UV h (λg=>d u.bQ (by omega) (.inr (.inl ⟨u,e,.inl rfl⟩)) g) λg=>d u.To (by omega) (.inr (.inl ⟨u,e,.inr rfl⟩)) g;have j:Fv q.aA k t↔Fv q.aA k a:=by
  constructor
  ·rintro ⟨b,hb,h1,h2,h3⟩;refine ⟨b,hb,h1,?_,by omega⟩;rcases yC4 a b.bQ with g | g
   ·exact absurd ⟨g,h2⟩ (d b.bQ (by omega) (.inr (.inr ⟨b,hb,.inl rfl⟩)))
   omega
  ·rintro ⟨b,hb,h1,h2,h3⟩;refine ⟨b,hb,h1,by omega,?_⟩;rcases yC4 t b.To with g | g
   ·exact g
   ·exact absurd ⟨h3,g⟩ (d b.To (by omega) (.inr (.inr ⟨b,hb,.inr rfl⟩)))
 unfold bI
 grind
theorem BG(T:List Int){a t:Int}(h:a<=t):∃x,(x=a\/x∈T)/\a<=x/\x<=t/\∀y∈T,y<=t->y<=x:=by
 induction T with
 |nil=>simp_all
 |cons y T ih=>grind
structure Ja (q:gR) (a b:Int) (F:List aE):Prop where
 len:F.length=q.S.aj.length
 low:∀(k:Nat)(h:k<F.length),PP (λt v=>v=bI q k t) a b F[k]
structure iB (q:gR) (w:Cw):Prop where
 part:0<=w.Part/\w.Part<q.S.aH.length
 many:w.aM<=100000
 need:aN w.ay
 vI:w.ay≠bV
 wall:1<=w.aR/\w.aR<=65536
def cB(q:gR)(w:Cw):List Int:=(q.S.aH[w.Part.toNat]?).getD []
theorem jQ{q:gR}{w:Cw}(h:iB q w):aC q.S.aH w.Part=some (cB q w)/\cB q w∈q.S.aH:=by
 obtain ⟨a,e⟩:=EL h.part.1 h.part.2;have:cB q w=q.S.aH[w.Part.toNat]:=by grind [cB]
 simp_all
def Zo(q:gR):Prop:=∀(k t:Int),0<=k->k<q.S.aj.length->q.aQ<=t->aN (bI q k t)
theorem KL{V:Int->aE->Prop}{a b:Int}{r:aE}(h:PP V a b r)(d:∀t v,a<=t->V t v->aN v):aN r:=wB.2 λc=>by
 obtain ⟨t,v,f,g,i,e⟩:=h.dg c
 grind [wB]
theorem Bk{F:List aE}{k:Nat}(h:k<F.length):kI F (k:Int)=F[k]:=by grind [kI]
theorem Kr{q:gR}(hq:sf q){w:Cw}(b:iB q w){F:List aE}(hl:F.length=q.S.aj.length)(d:∀n∈cB q w,aN (kI F n)):px F (cB q w):=by obtain ⟨_,a⟩:=jQ b;have e:=hq.spec.parts.ok _ a;have hs:=(kH hq.spec).part _ a;refine ⟨by omega,λn hn=>?_,d⟩;have:=e.2.mem n hn;omega
theorem pf_when{q:gR}(hq:sf q)(O:Zo q){w:Cw}(b:iB q w){t:Int}(h0:q.aQ<=t)(ht:t<=1099511627776) :
  bO (VO 5000 q w t) λr=>∃F,Ja q t (t+w.aR) F/\r=DA F (cB q w) w.aM w.ay:=by
 have nn:=hq.spec.nodes.hi;have P:=hq.now;have wl:=b.wall;unfold VO;rw[if_neg (by have:=b.part;simp_all),wr (x:=t+w.aR) (by omega) (by omega)];refine (LQ hq).bind λT A=>?_;have tl:=A.len;refine jm q.S.aj.length (λi x=>x.1=(i:Int)/\x.2.length=i/\∀(k:Nat)(h:k<x.2.length),PP (λt v=>v=bI q k t) t (t+w.aR) x.2[k]) (λi x f hi a Q=>?_) (λx f a=>?_) ⟨rfl,rfl,λk h=>by simp at h⟩ (by omega)
 ·obtain ⟨y,F⟩:=x;obtain ⟨rfl,d,m⟩:=a;dsimp only at d m ⊢;rw[if_pos (cK hi)];refine (TF hq hi (by omega)).bind λr e=>?_;rw[e];refine jm T.length (λj x=>∃v:aE,x=((j:Int),v.bF,v.Mem,v.bJ,v.bL)/\GH (bI q i t::((T.take j).filter λy=>decide (t<y/\y<t+w.aR)).map (bI q i)) v) (λj x R p a E=>?_) (λx R a=>?_) ⟨bI q i t,rfl,GH.one _⟩ (by omega)
  ·obtain ⟨v,rfl,o⟩:=a;simp only[dV];rw[if_pos (cK p)];simp only[bX p,aw];rw[bT (show j<1000000 by omega)];have N:(T.take (j+1)).filter (λy=>decide (t<y/\y<t+w.aR))=(T.take j).filter (λy=>decide (t<y/\y<t+w.aR))++(if t<T[j]/\T[j]<t+w.aR then [T[j]] else []):=by
    rw[Ib p,List.filter_append]
    grind
   have tm:=(A.mem T[j]).1 (bH p);by_cases g:t<T[j]
   ·rw[if_pos (by simp_all)];by_cases S:T[j]<t+w.aR
    ·rw[if_pos (by simp_all)];refine (TF hq hi (t:=T[j]) (by omega)).bind λs U=>?_;have G:zc6 5000 ({ bF:=v.bF,Mem:=v.Mem,bJ:=v.bJ,bL:=v.bL }:aE) s.1=some (uH v s.1):=Xh v s.1;rw[G,aw];rw[if_pos ⟨g,S⟩] at N;refine E _ ⟨uH v s.1,rfl,?_⟩;rw[N,yCc,<-Jd,U];exact o.add _
    grind
   grind
  ·obtain ⟨v,rfl,o⟩:=a;dsimp only;rw[if_neg (by simp)];rw[xO] at o;have G:bP F ([({ bF:=v.bF,Mem:=v.Mem,bJ:=v.bJ,bL:=v.bL }:aE)]:List aE)=some (F++[v]):=Cj (by grind);rw[G,aw,bT (show i<1000000 by omega)];have low:PP (λt v=>v=bI q i t) t (t+w.aR) v:=by
    refine ⟨λu x W h2 e c=>?_,λc=>?_⟩
    ·obtain ⟨z,z1,z2,X,Y⟩:=BG T W;have Z:bI q i u=bI q i z:=CR (by omega) X λy K L M=>by
      have:=Y y ((A.mem y).2 ⟨K,L⟩) M.2;omega
     rw[e,Z];refine o.le _ ?_ c
     grind
    ·obtain ⟨x,a,e⟩:=o.dg c
     grind
   grind
 ·obtain ⟨y,F⟩:=x;obtain ⟨rfl,d,m⟩:=a;dsimp only at d m ⊢;obtain ⟨ep,hm⟩:=jQ b;have hP:px F (cB q w):=Kr hq b d λn hn=>by
   have kp:=(hq.spec.parts.ok _ hm).2.mem n hn;have e:kI F n=F[n.toNat]:=(zx kp.1 (by omega)).2.2;rw[e];exact KL (m n.toNat (by omega)) λu x hu a=>by rw[a];exact O _ u (by omega) (by omega) (by omega)
  rw[if_neg (by simp),ep,aw,Xe hP b.need b.vI b.many,aw,aY];exact ⟨F,⟨d,m⟩,rfl⟩
structure PR (nodes:List (List bY)) (q:gR) (L:Nat):Prop where
 len:nodes.length=q.S.aj.length
 dg:DR nodes q.aQ L
 val:∀(k:Nat)(h:k<nodes.length)(t:Int),q.aQ<=t->za nodes[k] t (bI q k t)
theorem PR.right{i:List (List bY)}{q:gR}{L:Nat}(h:PR i q L):Zo q:=λk t s hk o=>by
 have j:k.toNat<i.length:=by grind [PR.len]
 have:=(h.val k.toNat j t o).ok (h.dg.each _ j).1
 grind
theorem PR.iff{i:List (List bY)}{q:gR}{L:Nat}(h:PR i q L){k:Nat}(hk:k<i.length){t:Int}(j:q.aQ<=t){v:aE}:za i[k] t v↔v=bI q k t:=
 ⟨λo=>o.Cq (h.dg.each k hk).1 (h.val k hk t j),λe=>by rw[e];exact h.val k hk t j⟩
theorem KR{b:List (List bY)}{q:gR}{L:Nat}(R:L<=900)(hq:sf q)(j:PR b q L){w:Cw}(e:iB q w){t:Int}(S:q.aQ<=t)(T:t<=1099511627776) :
  bO (zaI 5000 b w.Part w.aM w.ay w.aR t q.aQ q.S.aH) λr=>∃F,F.length=q.S.aj.length/\(∀n∈cB q w,PP (λu v=>v=bI q n u) t (t+w.aR) (kI F n))/\r=DA F (cB q w) w.aM w.ay:=by
 have nn:=hq.spec.nodes.hi;have M:=hq.now;have U:=e.wall;obtain ⟨N,E⟩:=jQ e;have s:=hq.spec.parts.ok _ E;have pl:=(kH hq.spec).part _ E;have O:=j.right;unfold zaI;rw[if_neg (by have:=e.part;simp_all),wr (x:=t+w.aR) (by omega) (by omega),WQ _ (by grind [PR.len]),xk,N,xk];have G:=j.len;refine jm (cB q w).length (λi x=>x.1=(i:Int)/\x.2.length=b.length/\∀n∈(cB q w).take i,PP (λu v=>v=bI q n u) t (t+w.aR) (kI x.2 n)) (λi x f hi m z=>?_) (λx f m=>?_) ⟨rfl,by simp,λn h=>by simp at h⟩ (by omega)
 ·obtain ⟨y,F⟩:=x;obtain ⟨rfl,p,o⟩:=m;dsimp only at p o ⊢;have hn:=s.2.mem _ (bH hi);obtain ⟨k,P⟩:∃k:Nat,(cB q w)[i]=(k:Int):=⟨((cB q w)[i]).toNat,by omega⟩;have hk:k<b.length:=by omega
  obtain ⟨K,lk⟩:=j.dg.each k hk;have f0:=j.dg.first k hk K.ne;rw[if_pos (cK hi),bX hi,aw,P,bX hk,aw];refine (Mm (by omega) K (a:=t) (by omega) (show t<t+w.aR by omega)).bind λr A=>?_;rw[bX (show k<F.length by omega),aw,bT (show i<1000000 by omega),yBL];refine z _ ⟨rfl,by simp[p],λn d=>?_⟩;have low:PP (λu v=>v=bI q k u) t (t+w.aR) r:=A.iff λu v Q=>j.iff hk (by omega);dsimp only;by_cases g:n=(k:Int)
  ·grind [Bk]
  ·have:kI (F.set k r) n=kI F n\/n<0:=by
    grind [kI]
   rw[Ib hi,mC,Bp] at d;rcases d with d | d
   ·have nb:=s.2.mem n (O_ d)
    grind
   omega
 ·obtain ⟨y,F⟩:=x;obtain ⟨rfl,p,o⟩:=m;dsimp only at p o ⊢;rw[xO] at o;have hP:px F (cB q w):=Kr hq e (by omega) λn hn=>by
   have nb:=s.2.mem n hn;exact KL (o n hn) λu x Q m=>by rw[m];exact O n u (by omega) (by omega) (by omega)
  rw[if_neg (by simp),aw,Xw hP e.need e.vI e.many,aw,aY]
  grind
theorem DU{a:List (List bY)}{q:gR}{L:Nat}(s:L<=900)(hq:sf q)(g:PR a q L){w:Cw}(d:iB q w){t:Int}(h:q.aQ<=t)(i:t<=1099511627776) :
  ∃F,Ja q t (t+w.aR) F/\px F (cB q w)/\zaI 5000 a w.Part w.aM w.ay w.aR t q.aQ q.S.aH=some (DA F (cB q w) w.aM w.ay)/\VO 5000 q w t=some (DA F (cB q w) w.aM w.ay):=by
 have j:=g.right;have v:=hq.now;obtain ⟨r,e,F,f,rfl⟩:=pf_when hq j d h i;obtain ⟨K,k,G,M,b,rfl⟩:=KR s hq g d h i;obtain ⟨N,y⟩:=jQ d;have m:=hq.spec.parts.ok _ y;have o:∀n∈cB q w,kI G n=kI F n:=λn hn=>by have nb:=m.2.mem n hn;obtain ⟨z,_,A⟩:=zx (F:=F) nb.1 (by grind [Ja.len]);have p:=f.low n.toNat z;rw[yCs nb.1] at p;rw[A];exact (b n hn).Cq p
 rw[KV o] at k;refine ⟨F,f,Kr hq d f.len λn hn=>?_,k,e⟩;have nb:=m.2.mem n hn;rw[<-o n hn];exact KL (b n hn) λu x O E=>by rw[E];exact j n u (by omega) (by omega) (by omega)
end Go.Plain
end
