/- Lemmas. -/
import Derived.Test.YtcndmfkgdaipaaaGreatLawA
set_option linter.all false
open Go.IntKind (i64 u64)
section
namespace Go.Plain
open Go.Abs
theorem YC{α:Type}(z:α){n:Nat}(h:n<=1000000):EW z (n:Int) (n:Int)=some (List.replicate n z):=by
 unfold EW
 grind
theorem Ua(v:aD)(need:aD):fw v (mulR 0 need)=v:=OH λc=>by rw[Ci,zr];omega
theorem Gw(v a b:aD):fw (fw v a) b=fw v (sI a b):=OH λc=>by simp only[Ci,qO];omega
theorem Qn.none{l:List bM}(hs:dJ l)(a b:Int)(need:aD):Qn l a b (mulR 0 need) l:=
 ⟨hs,by omega,λ_ _=>rfl,λt v h=>by rw[Ua,ite_self];exact h⟩
structure CQ (nodes:List (List bM)) (now:Int) (L:Nat):Prop where
 each:∀k (h:k<nodes.length),dJ nodes[k]/\nodes[k].length<=L
 first:∀k (h:k<nodes.length) (h':0<nodes[k].length),nodes[k][0].At=now
theorem yE{l:List dj}{n:Int}(h:∀y∈l,y.Node≠n):dm l n=0:=by
 induction l with
 |nil=>simp[dm]
 |cons y l ih=>
  have a:=ih λz hz=>h z (nS _ hz);simp only[dm,ql,yCw] at a ⊢
  simp_all
theorem Bb{l:List dj}{n:Int}(h:ba l n){i j:Nat}(a:i<j)(b:j<l.length):l[i].Node<l[j].Node:=by
 induction j with
 |zero=>omega
 |succ j ih=>
  have s:=(h (j+1) b).up
  grind [qG]
theorem JL{l:List dj}{n:Int}(h:ba l n){i:Nat}(hi:i<l.length):dm l l[i].Node=l[i].aL:=by
 have e:=QZ (l:=l.take (i+1)) (m:=l.drop (i+1)) l[i].Node;have d:dm (l.take i) l[i].Node=0:=yE λy a=>by obtain ⟨j,b,rfl⟩:=Nx.1 a;rw[BV] at b;rw[SC];have:=Bb h (show j<i by omega) hi;omega
 have f:dm (l.drop (i+1)) l[i].Node=0:=yE λy a=>by obtain ⟨j,b,rfl⟩:=Nx.1 a;rw[yBX] at b;rw[yCk];have:=Bb h (show i<i+1+j by omega) (by omega);omega
 rw[J_,mg hi,d,f,if_pos rfl] at e;omega
theorem OR{l:List dj}{n:Int}(h:ba l n){i:Nat}(hi:i<l.length):dm (l.take i) l[i].Node=0:=yE λy a=>by obtain ⟨j,b,rfl⟩:=Nx.1 a;rw[BV] at b;rw[SC];have:=Bb h (show j<i by omega) hi;omega
theorem Bx{d:List (List bM)}{g:Int}{L:Nat}(hL:L<=900)(w:CQ d g L)(hn:d.length<=40){a b:Int}{l:List dj}{need:aD}(hl:ba l d.length)(S:l.length<=300)(G:aN need)
  (h0:g<=a) (m:a<b) (hb:b<=281474976710656) (n:∀k (h:k<d.length) t v,a<=t->t<b->xO d[k] t v->wW (mulR (dm l k) need) v) :
  bR (zbd 5000 d a b l need) λr=>r.2=0/\r.1.length=d.length/\∀k (h:k<d.length) (K:k<r.1.length),Qn d[k] a b (mulR (dm l k) need) r.1[k]:=by
 unfold zbd;rw[YC _ (by omega),aw];have node:∀i (hi:i<l.length),∃k:Nat,l[i].Node=(k:Int)/\k<d.length:=λi hi=>by obtain ⟨N,U,_⟩:=hl.mem _ (bC hi);exact ⟨l[i].Node.toNat,by omega,by omega⟩
 refine jj l.length (λi x=>∃T:List (List bM),x=((i:Int),T)/\T.length=l.length/\∀j (hj:j<l.length) (O:j<T.length) (k:Nat) (hk:k<d.length),j<i->l[j].Node=(k:Int)->Qn d[k] a b (mulR l[j].aL need) T[j]) (λi x f hi e P=>?_) (λx f e=>?_)
  ⟨_,rfl,List.length_replicate ..,λj _ _ _ _ h=>by omega⟩ (by omega)
 ·obtain ⟨T,rfl,O,W⟩:=e;obtain ⟨k,o,hk⟩:=node i hi;have sh:=hl.mem _ (bC hi);dsimp only;rw[if_pos (cR hi),bY hi,aw];have y:dm l k=l[i].aL:=by grind [JL]
  have fk:=n k hk;rw[y] at fk;obtain ⟨u,lk⟩:=w.each k hk;have f0:=w.first k hk u.ne;have Q:aN (mulR l[i].aL need):=by obtain ⟨v,p⟩:=xO.ex u (t:=a) (by omega);have:=fk a v (Pu _) m p;refine rB.2 λc=>?_;have N:=this c;have U:=rB.1 (p.ok u) c;have X:=rB.1 G c;rw[zr] at N ⊢;have:=yBY (show 0<=l[i].aL by omega) X.1;omega
  refine (Mq G ⟨sh.2.2.1,sh.2.2.2⟩).bind λr s=>?_;have z:=s.1.2 Q;rw[if_neg (by simp[z]),s.2 z,o,bY hk,wh];refine (xa (by omega) u Q (by omega) m hb fk).bind λr2 Y=>?_;rw[bY (show i<T.length by omega),aw,if_neg (by simp_all),bU (show i<1000000 by omega),yCl]
  grind
 ·obtain ⟨T,rfl,O,W⟩:=e;dsimp only;rw[if_neg (by simp)];refine jj l.length (λi x=>∃M:List (List bM),x=((i:Int),M)/\M.length=d.length/\∀k (h:k<d.length) (K:k<M.length),Qn d[k] a b (mulR (dm (l.take i) k) need) M[k]/\(dm (l.take i) k=0->M[k]=d[k])) (λi x f hi e P=>?_) (λx f e=>?_)
   ⟨_,rfl,rfl,λk h _=>⟨by simpa[dm] using Qn.none (w.each k h).1 a b need,λ_=>rfl⟩⟩ (by omega)
  ·obtain ⟨M,rfl,R,Z⟩:=e;obtain ⟨k,o,hk⟩:=node i hi;dsimp only;rw[if_pos (cR hi),bY hi,aw,bY (show i<T.length by omega),aw,o,bY (show k<M.length by omega),aw,bU (show i<1000000 by omega),yCl];refine P _ ⟨_,rfl,by simp[R],λA h K=>?_⟩;have hb:=OR hl hi;rw[o] at hb;by_cases q:k=A
   ·subst q;have E:(M.set k T[i])[k]=T[i]:=yBC _;rw[mg hi,hb,if_pos o,Int.zero_add,E];have sh:=hl.mem _ (bC hi)
    grind
   ·have E:(M.set k T[i])[A]=M[A]'(by omega):=yBM q _;rw[mg hi,if_neg (by omega),Int.add_zero,E]
    simp_all
  ·obtain ⟨M,rfl,R,Z⟩:=e;dsimp only;rw[if_neg (by simp),bg]
   simp_all
def kk(F:List aD)(n:Int):aD:=(F[n.toNat]?).getD bP
def cS(F:List aD)(l:List Int)(need:aD):Int:=(l.map λn=>dL (kk F n) need).sum
def HA(left c:Int):Int:=if left<c then left else c
def ZY(F:List aD)(need:aD)(x:Int×List dj)(n:Int):Int×List dj:=
 if HA x.1 (dL (kk F n) need)=0 then x else (x.1-HA x.1 (dL (kk F n) need),x.2++[{ Node:=n,aL:=HA x.1 (dL (kk F n) need) }])
def rF(F:List aD)(need:aD)(l:List Int)(many:Int):Int×List dj:=l.foldl (ZY F need) (many,[])
def BY(F:List aD)(l:List Int)(many:Int)(need:aD):List dj×Bool:=if many<1\/cS F l need<many then ([],false) else ((rF F need l many).2,true)
theorem yb{F:List aD}{n:Int}(b:0<=n)(h:n<F.length):∃a:n.toNat<F.length,aE F n=some (kk F n)/\kk F n=F[n.toNat]'a:=by grind [FF,kk]
structure oL (F:List aD) (l:List Int):Prop where
 xh:l.length<=300
 node:∀n∈l,0<=n/\n<F.length
 Wa:∀n∈l,aN (kk F n)
section
variable{F:List aD}{l:List Int}{need:aD}(hP:oL F l)(hn:aN need)(hz:need≠bP)
include hP hn
theorem od{n:Int}(h:n∈l):0<=dL (kk F n) need/\dL (kk F n) need<=64:=Pj (hP.Wa n h) hn
theorem Yr:0<=cS F l need/\cS F l need<=64 * l.length:=by
 have:∀(m:List Int),(∀x∈m,x∈l)->0<=cS F m need/\cS F m need<=64 * m.length:=by
  intro m;induction m with
  |nil=>grind [cS]
  |cons x m ih=>
   intro h;have b:=ih λy a=>h y (nS _ a);have:=od hP hn (h x (rJ ..))
   grind [cS]
 simp_all
include hz
theorem Zr{n:Int}(h:n∈l):pE 5000 F n need=some (dL (kk F n) need):=by have hb:=hP.node n h;obtain ⟨_,e,_⟩:=yb hb.1 hb.2;unfold pE;rw[if_neg (by simp_all),e,aw,count (hP.Wa n h) hn hz,aw]
theorem yf{i:Nat}(hi:i<l.length):cS F (l.take (i+1)) need=cS F (l.take i) need+dL (kk F l[i]) need:=by grind [List.take_succ_eq_append_getElem,cS]
theorem yx{i:Nat}:0<=cS F (l.take i) need/\cS F (l.take i) need<=64 * 300:=by
 have h:=Yr (F:=F) (l:=l.take i) (need:=need) ⟨by grind [oL.xh],λn h=>hP.node n (Ky h),λn h=>hP.Wa n (Ky h)⟩ hn
 grind [oL.xh]
theorem Wo:qP 5000 F l need=some (cS F l need):=by
 have hl:=hP.xh;unfold qP;refine bR.eq (jj l.length (λi x=>x=(cS F (l.take i) need,(i:Int))) (λi x f hi a d=>?_) (λx f a=>?_) (by simp[cS]) (by omega))
 ·subst a;have c:=od hP hn (bC hi);have b:=yx hP hn hz (i:=i);dsimp only;rw[if_pos (cR hi),bY hi,aw,Zr hP hn hz (bC hi),aw,bU (show i<1000000 by omega),wr (by omega) (by omega)]
  grind [yf]
 ·subst a;dsimp only;rw[if_neg (by simp),bg,xr]
theorem pf_room:iu 5000 F l need=some (cS F l need):=by
 have hl:=hP.xh;unfold iu;refine bR.eq (jj l.length (λi x=>x=(cS F (l.take i) need,(i:Int))) (λi x f hi a d=>?_) (λx f a=>?_) (by simp[cS]) (by omega))
 ·subst a;have c:=od hP hn (bC hi);have b:=yx hP hn hz (i:=i);have hb:=hP.node _ (bC hi);obtain ⟨_,e,_⟩:=yb hb.1 hb.2;simp only[fA];rw[if_pos (cR hi)];simp only[bY hi,aw];rw[if_pos (by simp_all),if_pos (by simp_all),e,aw,AM (hP.Wa _ (bC hi)) hn hz,aw,bU (show i<1000000 by omega),wr (by omega) (by omega)]
  grind [yf]
 ·subst a;dsimp only;rw[if_neg (by simp),bg,xr]
theorem uR{i:Nat}(hi:i<l.length)(many:Int):rF F need (l.take (i+1)) many=ZY F need (rF F need (l.take i) many) l[i]:=by grind [rF,List.take_succ_eq_append_getElem]
theorem QY{many:Int}(hm:1<=many/\many<=100000)(i:Nat):(0<=(rF F need (l.take i) many).1/\(rF F need (l.take i) many).1<=many)/\(rF F need (l.take i) many).2.length<=i:=by
 induction i with
 |zero=>grind [rF]
 |succ i ih=>
  by_cases hi:i<l.length
  ·have c:=od hP hn (bC hi);rw[uR hP hn hz hi];unfold ZY;by_cases q:HA (rF F need (l.take i) many).1 (dL (kk F l[i]) need)=0
   ·grind
   ·rw[if_neg q]
    grind [HA]
  grind [List.take_of_length_le]
theorem KZ{many:Int}(i:Nat)(h:(rF F need (l.take i) many).1=0):(rF F need l many).2=(rF F need (l.take i) many).2:=by
 have:∀n,rF F need (l.take (i+n)) many=rF F need (l.take i) many:=by
  intro n;induction n with
  |zero=>rfl
  |succ n ih=>
   by_cases hi:i+n<l.length
   ·have c:=od hP hn (bC hi);rw[<-yC6,uR hP hn hz hi,ih];unfold ZY HA
    grind
   grind [List.take_of_length_le]
 have:=this l.length
 grind [List.take_of_length_le]
theorem Xh{many:Int}(hm:many<=100000):zek 5000 F l many need=some (BY F l many need):=by
 have hl:=hP.xh;unfold zek BY;simp only[fA];by_cases g:many<1
 ·simp_all
 rw[if_neg (by simp_all),Wo hP hn hz,aw];by_cases j:cS F l need<many
 ·simp_all
 rw[if_neg (by simp_all),if_neg (by omega)];refine bR.eq (jj l.length (λi x=>x=((rF F need (l.take i) many).1,(i:Int),(rF F need (l.take i) many).2)) (λi x f hi a b=>?_) (λx f a=>?_) (by simp[rF]) (by omega))
 ·subst a;have c:=od hP hn (bC hi);have d:=QY hP hn hz (many:=many) ⟨by omega,hm⟩ i;have st:=uR hP hn hz hi many;dsimp only;rw[if_pos (cR hi),bY hi,aw,Zr hP hn hz (bC hi),aw,bx];refine ⟨λh=>?_,λh=>?_⟩
  ·grind [bg,KZ]
  ·rw[bU (show i<1000000 by omega)];unfold ZY at st;rw[bx];refine ⟨λh=>?_,λh=>?_⟩
   ·rw[if_pos (show HA _ _=0 by grind [HA])] at st
    simp_all
   ·rw[if_neg (show ¬HA _ _=0 by grind [HA])] at st;rw[Bi (by grind),aw];have e:i64.wrap ((rF F need (l.take i) many).1-(if (rF F need (l.take i) many).1<dL (kk F l[i]) need then (rF F need (l.take i) many).1 else dL (kk F l[i]) need))=(rF F need (l.take i) many).1-HA (rF F need (l.take i) many).1 (dL (kk F l[i]) need):=by
     grind [HA,wr]
    rw[e];exact b _ (by rw[st];rfl)
 ·subst a;dsimp only;rw[if_neg (by simp),bg,xr]
theorem WT{many:Int}(hm:many<=100000):zc7 5000 F l many need=some (BY F l many need):=by
 have hl:=hP.xh;unfold zc7 BY;simp only[fA];by_cases j:many<1
 ·simp_all
 rw[if_neg (by simp_all),pf_room hP hn hz,aw];by_cases k:cS F l need<many
 ·simp_all
 rw[if_neg (by simp_all),if_neg (by omega)];refine bR.eq (jj l.length (λi x=>x=((rF F need (l.take i) many).1,(i:Int),(rF F need (l.take i) many).2)) (λi x f hi b m=>?_) (λx f b=>?_) (by simp[rF]) (by omega))
 ·subst b;have c:=od hP hn (bC hi);have d:=QY hP hn hz (many:=many) ⟨by omega,hm⟩ i;have st:=uR hP hn hz hi many;have hb:=hP.node _ (bC hi);obtain ⟨_,e,_⟩:=yb hb.1 hb.2;dsimp only;rw[bx];refine ⟨λh=>?_,λh=>?_⟩
  ·simp only[bI,bz] at h;rw[bY hi,aw,if_neg (by simp_all),aw,if_neg (by simp_all),aw,e,aw,AM (hP.Wa _ (bC hi)) hn hz,aw,bU (show i<1000000 by omega)];unfold ZY HA at st;rw[bx];refine ⟨λa=>?_,λa=>?_⟩
   ·simp only[bz] at a;rw[if_pos (show (rF F need (l.take i) many).1<dL (kk F l[i]) need from a),if_neg (by omega)] at st;rw[if_pos (by simp_all),aw,Bi (by grind),aw,wr (x:=_-_) (by omega) (by omega)]
    simp_all
   ·simp only[bz] at a;rw[if_neg (show ¬(rF F need (l.take i) many).1<dL (kk F l[i]) need from a)] at st;rw[wr (x:=_-_) (by omega) (by omega)];by_cases g:dL (kk F l[i]) need=0
    ·simp_all
    ·rw[if_neg g] at st;rw[if_pos (by grind),aw,Bi (by grind),aw]
     simp_all
  ·rw[bg,KZ hP hn hz i]
   grind
 ·subst b;dsimp only;rw[if_neg (by simp),bg,xr]
end
theorem IM{F G:List aD}{l:List Int}(h:∀n∈l,kk F n=kk G n)(many:Int)(need:aD):BY F l many need=BY G l many need:=by
 have a:cS F l need=cS G l need:=by grind [cS,List.map_congr_left]
 have b:∀(m:List Int)(x:Int×List dj),(∀n∈m,n∈l)->m.foldl (ZY F need) x=m.foldl (ZY G need) x:=by
  intro m;induction m with
  |nil=>simp_all
  |cons n m ih=>grind [ZY]
 grind [BY,rF]
theorem SP{a b need:aD}(k:aN a)(hb:aN b)(hn:aN need)(h:wW a b):dL a need<=dL b need:=by
 have f:=vz k hn;have m:=vz hb hn;rcases yC4 (dL b need) (dL a need) with q | q
 ·obtain ⟨p,g,d⟩:=m.max (by have:=f.hi;omega);have e:∀(x y:Int×Int),x.2=y.2->x.1<=y.1->0<=y.2->x∈ER a need->y.1<(dL b need+1) * y.2->False:=λx y r s n o d=>by
   have:=f.fit x o;have t:(dL b need+1) * y.2<=dL a need * y.2:=yAW (by omega) n
   grind
  have f0:=h 0;have f1:=h 1;have i:=h 2;have j:=h 3;simp only[cmp] at f0 f1 i j;have:=hn.FN;have:=hn.mem;have:=hn.IL;have:=hn.JZ;simp only[ER,gu,Ms,MK] at g;rcases g with rfl | rfl | rfl | rfl
  ·exact (e (a.bA,need.bA) (b.bA,need.bA) rfl f0 (by omega) (by simp[ER]) d).elim
  ·exact (e (a.Mem,need.Mem) (b.Mem,need.Mem) rfl f1 (by omega) (by simp[ER]) d).elim
  ·exact (e (a.bE,need.bE) (b.bE,need.bE) rfl i (by omega) (by simp[ER]) d).elim
  ·exact (e (a.bG,need.bG) (b.bG,need.bG) rfl j (by omega) (by simp[ER]) d).elim
 omega
theorem Pv{F G:List aD}{l:List Int}{need:aD}(d:oL F l)(e:oL G l)(hn:aN need)(h:∀n∈l,wW (kk F n) (kk G n)):cS F l need<=cS G l need:=by
 have:∀(m:List Int),(∀x∈m,x∈l)->cS F m need<=cS G m need:=by
  intro m;induction m with
  |nil=>grind [cS]
  |cons x m ih=>
   intro b;have g:=ih λy f=>b y (nS _ f);have a:=b x (rJ ..);have:=SP (d.Wa x a) (e.Wa x a) hn (h x a)
   grind [cS]
 simp_all
theorem AP{F:List aD}{l:List Int}{many:Int}{need:aD}:(BY F l many need).2=true↔1<=many/\many<=cS F l need:=by grind [BY]
def sM(j:aM):Bool:=(j.State == 3) || (j.State == 4)
theorem hasJ_lt{j:aM}(h:sM j=true):j.State<5:=by simp only[sM,gz,nh] at h;omega
structure eV (s:bm) (st:ca) (j:aM) (a:bV):Prop where
 Ej:a.aW=j.Id
 need:a.ay=j.ay
 kJ:jC s j a.ah
 now:st.aX<j.Start+j.aO
def kL(F:List aD)(a:bV):List aD:=F.mapIdx (qi a)
theorem ZF{F:List aD}{a:bV}:(kL F a).length=F.length:=by simp[kL]
theorem mT{F:List aD}{a:bV}{i:Nat}(h:i<(kL F a).length):(kL F a)[i]=qi a i (F[i]'(by grind [ZF])):=by simp[kL]
theorem qy.eq{F G:List aD}{a:bV}(h:qy F a G):G=kL F a:=
 yCq (by rw[h.len,ZF]) λi j o=>by rw[h.cK i j,mT o]
theorem tI{F:List aD}{a:bV}(h:um F a):∀r∈kL F a,aN r:=λr b=>by obtain ⟨i,hi,rfl⟩:=iW b;rw[mT hi];exact h i _
def eI(s:bm)(st:ca):List aM->List bV->List aD->Prop
 |[],A,_=>A=[]
 |j::H,A,F=>∃a b,A=a::b/\eV s st j a/\um F a/\eI s st H b (kL F a)
def gJ(s:bm)(st:ca):Prop:=eI s st (st.aj.filter sM) st.ae s.ai
theorem eI.mem{s:bm}{st:ca}{H:List aM}{A:List bV}{F:List aD}(h:eI s st H A F):∀a∈A,∃j∈H,eV s st j a:=by
 induction H generalizing A F with
 |nil=>intro a i;rw[show A=[] from h] at i;cases i
 |cons j H ih=>
  obtain ⟨b,o,rfl,u,x,z⟩:=h
  grind
theorem gJ.mem{s:bm}{st:ca}(h:gJ s st):∀a∈st.ae,∃j∈st.aj,eV s st j a:=λa i=>by
 obtain ⟨j,o,u⟩:=eI.mem h a i
 grind
theorem TD{α:Type}{M:List (Int×α)}{k:Int}{a:α}{b:Int}:dq (kr M k a) b=if k=b then some a else dq M b:=by
 induction M with
 |nil=>simp[kr,dq]
 |cons p M ih=>
  obtain ⟨q,v⟩:=p;simp only[kr];split
  ·grind [Go.Abs.dq]
  ·rename_i e;simp only[dq,ih]
   grind
theorem Ba{s:bm}(hs:lX s)(k:br s):OW 5000 s=some true:=by obtain ⟨r,e,h⟩:=qq s hs;rw[e,h.2 k]
theorem Bh{l:List aD}(h:l.length<=1000000):zaQ 5000 l=some l:=by simp only[zaQ,FR h]
theorem Ev{s:bm}(hs:lX s)(k:br s):zcD 5000 s=some (.inr ([],s.ai)):=by have:=hs.nodes;simp only[zcD,Ba hs k,aw,Ny,bX,cr,Bh (show s.ai.length<=1000000 by omega)]
theorem QK{l:List dj}(h:1<=kz l):l≠[]:=λe=>by grind [kz]
structure AInv (s:bm) (st:ca) (i:Nat) (x:(List bV)×Int×(List aD)×List (Int×bV)):Prop where
 ix:x.2.1=(i:Int)
 iff:gJ s st↔eI s st ((st.aj.drop i).filter sM) x.1 x.2.2.1
 len:x.2.2.1.length=s.ai.length
 Wa:∀r∈x.2.2.1,aN r
 keys:∀q,dq x.2.2.2 q≠none->∃m,∃h:m<st.aj.length,m<i/\st.aj[m].Id=q
 sub:∀a∈x.1,a∈st.ae
 xh:x.1.length<=300
theorem En{s:bm}(k:br s){st:ca}(z:lw s st)(J:dw s st):gh (zeo 5000 s st) (gJ s st):=by
 have hl:=z.bq;have hn:=z.spec.nodes;unfold zeo;rw[Ev z.spec k,aw];dsimp only;refine jj st.aj.length (AInv s st) (λi x f hi Q hr=>?_) (λx f Q=>?_) ⟨rfl,by simp[gJ],rfl,k.nodes.ok,λq h=>absurd rfl h,λa R=>R,z.cn⟩ (by omega)
 ·obtain ⟨o,x1,F,M⟩:=x;obtain ⟨p,d,t,n,g,j,u⟩:=Q;dsimp only at p d t n g j u;subst p;rw[yBR hi] at d;have ji:=J.each _ (bC hi);have N:=ji.ok;have up:∀q,(∃m,∃h:m<st.aj.length,m<i/\st.aj[m].Id=q)->∃m,∃h:m<st.aj.length,m<i+1/\st.aj[m].Id=q:=λq ⟨m,h,U,A⟩=>⟨m,h,by omega,A⟩;simp only[fA,TG,cR hi,if_true,bY hi,aw,bU (show i<1000000 by omega)];rw[bx];refine ⟨λh=>hr _ ⟨rfl,?_,t,n,λq hq=>up q (g q hq),j,u⟩,λh=>?_⟩
  ·have e:sM st.aj[i]=false:=by grind [sM]
   grind
  ·have e:sM st.aj[i]=true:=by simpa only[sM,im,nO] using h
   rw[List.filter_cons_of_pos e] at d;have ab:=N.start;have ad:=N.wall;rw[wr (x:=st.aj[i].Start+st.aj[i].aO) (by omega) (by omega),bx];refine ⟨λU=>cX λq=>?_,λU=>?_⟩
   ·obtain ⟨a,E,rfl,G,-⟩:=d.1 q;have:=G.now
    grind
   ·simp only[gz,bz,nh,not_or] at U;cases o with
    |nil=>grind
    |cons a E=>
     have R:=j a (rJ ..);have K:=z.shares a R;have W:aE (a::E) 0=some a:=by unfold aE;simp_all
     have sl:slice? (a::E) 1 ((a::E).length:Int)=some E:=by unfold slice?;rw[if_pos ⟨by omega,by omega,by omega⟩];simp
     simp only[W,sl,aw];rw[bx];refine ⟨λA=>?_,λA=>?_⟩
     ·refine cX λq=>?_;obtain ⟨X,y,Y,G,-⟩:=d.1 q
      grind [eV.Ej,fy,eV.need]
     ·simp only[gz,Jt,ne_eq,not_or,UJ,im,nO] at A;have eN:a.ay=st.aj[i].ay:=fy.1 A.2;refine (KW z.spec k st.aj[i] a.ah (kj K (by decide))).bind λr Z=>?_;rw[bx];refine ⟨λh3=>?_,λh3=>?_⟩
      ·refine cX λq=>?_;obtain ⟨X,y,Y,G,-⟩:=d.1 q
       grind [eV.kJ]
      ·simp only[im,nO] at h3;have S:=Z.1 h3;have P:eV s st st.aj[i] a:=⟨A.1,eN,S,by omega⟩;have T:um F a->tR M F a:=λhf=>⟨by have:=N.id;omega,QK (by have:=N.many;have:=S.TU;omega),by grind [jC.shares],by grind [gn.need],by
        cases hm:dq M a.aW with
        |none=>rfl
        |some v=>obtain ⟨m,af,aa,ak⟩:=g a.aW (by simp_all);have:=J.bN.lt aa hi;omega,hf⟩
       refine (Jp (M:=M) (a:=a) (F:=F) (by omega) (kj K (by decide)) n).bind λr2 L=>?_;rw[bx];refine ⟨λO=>cX λq=>?_,λO=>?_⟩
       ·obtain ⟨X,y,Y,G,hf,-⟩:=d.1 q
        simp_all
       ·simp only[Jt,ne_eq,UJ] at O;have tk:=L.1.1 O;obtain ⟨eM,bh⟩:=L.2 O;have eF:=bh.eq;refine hr _ ⟨rfl,?_,?_,?_,λq hq=>?_,λb hb=>j b (nS _ hb),?_⟩
        ·rw[d];dsimp only;rw[eF];constructor
         ·rintro ⟨X,y,Y,G,hf,w⟩
          simp_all
         ·intro w;exact ⟨a,E,rfl,P,tk.fits,w⟩
        ·grind [ZF]
        ·grind [tI,tR.fits]
        ·grind [TD]
        grind
 ·obtain ⟨o,x1,F,M⟩:=x;obtain ⟨p,d,t,n,g,j,u⟩:=Q;dsimp only at p d;subst p;rw[List.drop_length] at d;simp only[eL,bX,cr,bg,nh];rw[d];constructor
  ·intro h;exact WX (by omega)
  ·intro h;rw[show o=[] from h];rfl
structure OneB (n:Int) (b:kw):Prop where
 id:1<=b.Id/\b.Id<=281474976710656
 node:0<=b.Node/\b.Node<n
 lo:0<=b.bO
 span:b.bO<b.To
 hi:b.To<=1099511627776
structure tz (b:kw) (node p q:Int):Prop where
 node:b.Node=node
 span:b.bO<b.To
 pq:p<q
 l:b.bO<q
 r:p<b.To
structure PG (l:List kw) (n:Int) (i:Nat) (b:kw):Prop where
 one:OneB n b
 up:∀x (h:x<l.length),x<i->l[x].Id<b.Id/\¬tz l[x] b.Node b.bO b.To
structure yM (l:List kw) (n:Int):Prop where
 len:l.length<=16
 each:∀i (h:i<l.length),PG l n i l[i]
theorem El(l:List kw)(node p q:Int)(hl:l.length<=300):gh (fQ 5000 l node p q) (∃b∈l,tz b node p q):=by
 simp only[fQ];refine wi l (λ_ b=>¬tz b node p q) (λi f hi _ a=>?_) (λf h=>?_) (by omega)
 ·simp only[cR hi,if_true,bY hi,aw,bU (show i<1000000 by omega),bx];have e:decide ((if p > l[i].bO then p else l[i].bO)<(if q<l[i].To then q else l[i].To))=true↔l[i].bO<l[i].To/\p<q/\l[i].bO<q/\p<l[i].To:=by
   grind
  rw[bI,e,nh];exact ⟨λh=>rH ⟨_,bC hi,⟨h.1,h.2.1,h.2.2.1,h.2.2.2.1,h.2.2.2.2⟩⟩,λh=>a λm=>h ⟨m.node,m.span,m.pq,m.l,m.r⟩⟩
 ·simp only[eL,bX,cr];exact cX λ⟨b,hb,d⟩=>CI (A:=λb=>¬tz b node p q) h b hb d
theorem Gp(l:List kw)(node p q:Int)(hl:l.length<=300):gh (zb0 5000 l node p q) (∃b∈l,tz b node p q):=by
 simp only[zb0];refine wi l (λ_ b=>¬tz b node p q) (λi f hi _ a=>?_) (λf h=>?_) (by omega)
 ·simp only[cR hi,if_true,bY hi,aw,bU (show i<1000000 by omega),bx];simp only[bI,bz,nh];exact ⟨λh=>rH ⟨_,bC hi,⟨h.1.1.1.1,h.1.1.1.2,h.1.1.2,h.1.2,h.2⟩⟩,λh=>a λm=>h ⟨⟨⟨⟨m.node,m.span⟩,m.pq⟩,m.l⟩,m.r⟩⟩
 ·simp only[eL,bX,cr];exact cX λ⟨b,hb,d⟩=>CI (A:=λb=>¬tz b node p q) h b hb d
theorem Xg(b:kw)(n:Int):gh (qY 5000 b n) (OneB n b):=by simp only[qY,gh,bg,bI,bz];exact ⟨λh=>⟨by omega,by omega,by omega,by omega,by omega⟩,λh=>by have:=h.id;have:=h.node;have:=h.lo;have:=h.span;have:=h.hi;omega⟩
theorem ref_one(b:kw)(n:Int):gh (zeK 5000 b n) (OneB n b):=by simp only[zeK,zbk,aw,gh,bx,bg,bI,bz];refine ⟨λa=>⟨λh=>⟨by omega,by omega,by omega,by omega,by omega⟩,λh=>by have:=h.id;have:=h.node;have:=h.lo;have:=h.span;have:=h.hi;omega⟩,λa=>⟨λh=>by simp at h,λh=>by have:=h.id;omega⟩⟩
theorem xI{α:Type}{l:List α}{i:Nat}(h:i<=l.length):slice? l 0 (i:Int)=some (l.take i):=by
 unfold slice?
 simp_all
theorem Wj{l:List kw}{i:Nat}{P:kw->Prop}:(∃b∈l.take i,P b)↔∃x,∃h:x<l.length,x<i/\P l[x]:=by
 constructor
 ·grind [List.getElem_of_mem]
 ·rintro ⟨x,e,a,hp⟩;have d:x<(l.take i).length:=by grind
  refine ⟨(l.take i)[x],bC d,?_⟩
  simp_all
theorem DA(l:List kw)(n:Int)(hl:l.length<=300):gh (mF 5000 l n) (yM l n):=by
 unfold mF;rw[gh,bx];refine ⟨λh=>cX λq=>?_,λh=>?_⟩
 ·have:=q.len
  grind
 ·simp only[bz] at h;refine wi l (λi b=>PG l n i b) (λi f hi k v=>?_) (λf k=>?_) (by omega)
  ·have w:decide ((i:Int) > 0)=decide (0<i):=by simp
   simp only[fA,cR hi,if_true,bY hi,aw,bU (show i<1000000 by omega),w,xI (yCu hi)];refine (Xg l[i] n).bind λr j=>?_;rw[bx];refine ⟨λo=>cX λq=>?_,λo=>?_⟩
   ·have:=j.2 (q.each i hi).one
    simp_all
   ·simp only[im,nO] at o;have O:=j.1 o;have fin:(∀x (h:x<l.length),x<i->l[x].Id<l[i].Id)->bR ((fQ 5000 (l.take i) l[i].Node l[i].bO l[i].To).bind λr=>if r=true then some false else f ((i+1:Nat):Int)) (λb=>b=true↔yM l n):=λp=>by
     refine (El (l.take i) _ _ _ (by rw[BV];omega)).bind λr d=>?_;rw[Wj] at d;rw[bx];refine ⟨λe=>cX λq=>?_,λe=>v ⟨O,λx g a=>⟨p x g a,λm=>e (d.2 ⟨x,g,a,m⟩)⟩⟩⟩;obtain ⟨x,g,a,m⟩:=d.1 e;exact ((q.each i hi).up x g a).2 m
    rw[bx];refine ⟨λe=>?_,λe=>?_⟩
    ·simp only[bz] at e;obtain ⟨m,rfl⟩:∃m,i=m+1:=⟨i-1,by omega⟩;have s:m<l.length:=by omega
     rw[wp1 (show m+1<1000000 by omega),bY s,aw,bx];refine ⟨λt=>cX λq=>?_,λt=>fin λx g a=>?_⟩
     ·have:=((q.each (m+1) hi).up m s (by omega)).1
      grind
     ·simp only[bz] at t;rcases WB (yCx.1 a) with u | u
      ·have:=((k m s (by omega)).up x g u).1;omega
      simp_all
    simp_all
  ·simp only[eL,bX,cr];exact rH ⟨by omega,λi hi=>k i hi⟩
theorem Uv{α:Type}{l:List α}{i:Nat}(h:i<l.length):slice? l (i:Int) ((i+1:Nat):Int)=some [l[i]]:=by
 unfold slice?;rw[if_pos ⟨by omega,by omega,by omega⟩]
 grind [List.take_succ_eq_append_getElem,List.drop_eq_nil_of_le]
theorem WS(l:List kw)(n:Int)(hl:l.length<=300):gh (zdG 5000 l n) (yM l n):=by
 unfold zdG;refine wi l (λi b=>PG l n i b) (λi f hi o u=>?_) (λf o=>?_) (by omega)
 ·simp only[fA,cR hi,if_true,bY hi,aw,bU (show i<1000000 by omega)];refine (ref_one l[i] n).bind λr d=>?_;rw[bx];refine ⟨λj=>cX λq=>?_,λj=>?_⟩
  ·have:=d.2 (q.each i hi).one
   simp_all
  ·simp only[im,nO] at j;have O:=d.1 j;refine jj i (λx y=>y=(x:Int)/\∀z (h:z<l.length),z<x->l[z].Id<l[i].Id/\¬tz l[z] l[i].Node l[i].bO l[i].To) (λx y g k m v=>?_) (λy g m=>?_) ⟨rfl,λz h A=>by omega⟩ (by omega)
   ·obtain ⟨rfl,p⟩:=m;have a:x<l.length:=by omega
    simp only[cR k,if_true,bY a,aw,bU (show x<1000000 by omega)];rw[bx];refine ⟨λs=>cX λq=>?_,λs=>?_⟩
    ·have:=((q.each i hi).up x a k).1
     grind
    ·simp only[bz] at s;rw[Uv a,aw];refine (Gp [l[x]] _ _ _ (by simp)).bind λr e=>?_;simp only[zK,exists_eq_left] at e;rw[bx];refine ⟨λt=>cX λq=>((q.each i hi).up x a k).2 (e.1 t),λt=>v _ ⟨rfl,λz hz w=>?_⟩⟩
     grind
   ·obtain ⟨rfl,p⟩:=m;simp only[eL,bX,cr];exact u ⟨O,p⟩
 ·simp only[eL,bX,cr,bg,bz];exact ⟨λh=>⟨by omega,λi hi=>o i hi⟩,λq=>by have:=q.len;omega⟩
def Rg(st:ca)(a:bV):Prop:=∀j∈st.aj,j.Id=a.aW->∀x∈a.ah,∀b∈st.aB,b.Node=x.Node->¬b.bO<j.Start+j.aO
structure yL (s:bm) (st:ca):Prop where
 cM:yM st.aB s.ai.length
 live:∀b∈st.aB,b.Id<st.dE/\st.aX<b.To
 yU:∀a∈st.ae,Rg st a
theorem LD{s:bm}{st:ca}(t:lw s st)(J:dw s st)(A:gJ s st):gh (hZ 5000 s st) (yL s st):=by
 have hb:=t.cM;have hj:=t.bq;have T:=t.cn;unfold hZ;refine (DA st.aB _ (by omega)).bind λr u=>?_;rw[bx];refine ⟨λv=>cX λq=>?_,λv=>?_⟩
 ·grind [yL.cM]
 ·simp only[im,nO] at v;have B:=u.1 v;refine wi st.aB (λi b=>b.Id<st.dE/\st.aX<b.To) (λi f hi _ w=>?_) (λf Q=>?_) (by omega)
  ·simp only[cR hi,if_true,bY hi,aw,bU (show i<1000000 by omega)];rw[bx];simp only[gz,bz];exact ⟨λU=>cX λq=>by have:=q.live _ (bC hi);omega,λU=>w (by omega)⟩
  ·simp only[eL,bX,cr];refine wi st.ae (λi a=>Rg st a) (λi f hi _ w=>?_) (λf W=>?_) (by omega)
   ·simp only[cR hi,if_true,bY hi,aw,bU (show i<1000000 by omega)];have z:=bC hi;have X:=t.shares _ z;obtain ⟨j,d,P⟩:=A.mem _ z;have k:=J.each j d;have Y:=k.ok.id;have Z:=k.ok.start;have jw:=k.ok.wall;refine (Qr (by omega) J.bN (id:=st.ae[i].aW) (by have:=P.Ej;omega) J.ids).bind λr2 n=>?_;rw[n.1.2 ⟨j,d,P.Ej.symm⟩,if_neg (by simp)];have h:=n.2 (n.1.2 ⟨j,d,P.Ej.symm⟩);obtain ⟨E,aa⟩:=r2;dsimp only at h ⊢;obtain ⟨G,e⟩:=FF (l:=st.aj) h.lo (by have:=h.lo;have:=h.hi;omega);have ej:st.aj[E.toNat]=j:=by
     obtain ⟨m,o,rfl⟩:=iW d;have:=J.bN.inj G o (by rw[h.is,P.Ej])
     simp_all
    rw[ej] at e;rw[e];simp only[aw];rw[wr (x:=j.Start+j.aO) (by omega) (by omega)];have pn:=P.now;refine wi st.ae[i].ah (λ_ x=>∀b∈st.aB,b.Node=x.Node->¬b.bO<j.Start+j.aO) (λm g o _ hg=>?_) (λg hG=>?_) (by omega)
    ·simp only[cR o,if_true,bY o,aw,bU (show m<1000000 by omega)];refine (El st.aB _ _ _ (by omega)).bind λr3 p=>?_;rw[bx];refine ⟨λK=>cX λq=>?_,λK=>hg λb hb hn hf=>K (p.2 ⟨b,hb,?_⟩)⟩
     ·obtain ⟨b,hb,R⟩:=p.1 K;exact q.yU _ z j d P.Ej.symm _ (bC o) b hb R.node R.l
     ·obtain ⟨y,S,rfl⟩:=iW hb;have:=Q y S;exact ⟨hn,(B.each y S).one.span,pn,hf,this.2⟩
    ·simp only[eL,bX,cr];refine w λL M N x G b hb=>?_;have:L=j:=by
      obtain ⟨m,o,rfl⟩:=iW d;obtain ⟨m',O,rfl⟩:=iW M;have:=J.bN.inj O o (by rw[N,P.Ej])
      simp_all
     subst this;exact CI (A:=λx=>∀b∈st.aB,b.Node=x.Node->¬b.bO<L.Start+L.aO) hG x G b hb
   ·simp only[eL,bX,cr];exact rH ⟨B,CI Q,CI W⟩
structure aY (s:bm) (st:ca):Prop where
 spec:br s
 nums:Py s st
 bq:dw s st
 waits:∀j∈st.aj,Gc s st j
 cn:gJ s st
 jh:yL s st
 use:LV s st
theorem Ko{s:bm}{st:ca}(a:lw s st):gh (nI 5000 s st) (aY s st):=by
 unfold nI;have step:∀{o:Option Bool}{P:Prop}{k:Option Bool},gh o P->(aY s st->P)->(P->gh k (aY s st))->gh (o.bind λr=>if r=true then k else some false) (aY s st):=λe b f=>e.bind λr d=>bx.2 ⟨λh=>f (d.1 h),λh=>cX λq=>h (d.2 (b q))⟩
 refine step (qq s a.spec) (λq=>q.spec) λk=>?_;refine step (Po k st) (λq=>q.nums) λe=>?_;refine step (jobs_ok k a) (λq=>q.bq) λb=>?_;refine step (Pg k a b) (λq=>q.waits) λf=>?_;refine step (En k a b) (λq=>q.cn) λg=>?_;refine step (LD a b g) (λq=>q.jh) λi=>?_;refine (XB a).bind λr d=>?_;rw[bg,d];exact ⟨λj=>⟨k,e,b,f,g,i,j⟩,λq=>q.use⟩
def cw(A:List bV)(i:Int)(c:Nat):Int:=(A.map λa=>dm a.ah i * cmp c a.ay).sum
theorem Zn{a:bV}{A:List bV}{i:Int}{c:Nat}:cw (a::A) i c=dm a.ah i * cmp c a.ay+cw A i c:=by simp[cw]
theorem mW{A:List bV}{k:Nat}(h:k<A.length)(i:Int)(c:Nat):cw (A.take (k+1)) i c=cw (A.take k) i c+dm A[k].ah i * cmp c A[k].ay:=by grind [List.take_succ_eq_append_getElem,cw]
def zD(n:Int)(A:List bV):Prop:=∀a∈A,ba a.ah n/\aN a.ay
theorem XM{n:Int}{a:bV}(h:ba a.ah n/\aN a.ay)(i:Int)(c:Nat):0<=dm a.ah i * cmp c a.ay/\dm a.ah i * cmp c a.ay<=67108864:=
 eW (jA h.1 i) (rB.1 h.2 c)
theorem vx{n:Int}{A:List bV}(h:zD n A)(i:Int)(c:Nat):0<=cw A i c/\cw A i c<=67108864 * A.length:=by
 induction A with
 |nil=>simp[cw]
 |cons a A ih=>
  have d:=ih λb hb=>h b (nS _ hb);have e:=XM (h a (rJ ..)) i c
  grind [Zn]
def JN(F:List aD)(A:List bV):Prop:=∀i (h:i<F.length) c,cw A i c<=cmp c F[i]
theorem AE{a:aD}{n:Int}(b:aN a)(hn:0<=n/\n<=64):zb5 5000 a n=some (mulR n a):=by
 obtain ⟨m,rfl⟩:∃m:Nat,n=(m:Int):=⟨n.toNat,by omega⟩;unfold zb5;refine bR.eq (jj m (λk x=>x=((k:Int),(k:Int) * a.bA,(k:Int) * a.Mem,(k:Int) * a.bE,(k:Int) * a.bG)) (λk x f hk d o=>?_) (λx f d=>?_) (by simp) (by omega))
 ·subst d;have g:=eW (n:=((k+1:Nat):Int)) (by omega) b.FN;have h:=eW (n:=((k+1:Nat):Int)) (by omega) b.mem;have i:=eW (n:=((k+1:Nat):Int)) (by omega) b.IL;have j:=eW (n:=((k+1:Nat):Int)) (by omega) b.JZ;have e:∀x:Int,((k+1:Nat):Int) * x=(k:Int) * x+x:=λx=>by grind
  rw[e] at g h i j;simp only[cR hk,if_true,RY,aw,bU (show k<1000000 by omega)]
  grind [wr]
 ·subst d;simp only[eL,bX,cr,bg];rfl
theorem Xp(a b:aD):gh (Pq 5000 a b) (∀c,cmp c a<=cmp c b):=by
 simp only[Pq,gh,bg,bI,bz];constructor
 ·intro h c
  match c with
  |0=>exact h.1.1.1
  |1=>exact h.1.1.2
  |2=>exact h.1.2
  |_+3=>exact h.2
 ·intro h;exact ⟨⟨⟨h 0,h 1⟩,h 2⟩,h 3⟩
theorem Vq{F:List aD}{A:List bV}(Q:F.length<=300)(R:A.length<=300)(hs:∀a∈A,a.ah.length<=300){n:Int}(h:zD n A):bR (zem 5000 F A) λr=>r.2=true↔JN F A:=by
 unfold zem;refine jj F.length (λi x=>(x.1=true↔∀m (h:m<F.length),m<i->∀c,cw A m c<=cmp c F[m])/\x.2.1=(i:Int)/\x.2.2.length=i) (λi x f hi j w=>?_) (λx f j=>?_) ⟨⟨λ_ m h S=>by omega,λ_=>rfl⟩,rfl,rfl⟩ (by omega)
 ·obtain ⟨E,G,o⟩:=x;obtain ⟨d,b,p⟩:=j;dsimp only at d b p;subst b;simp only[cR hi,if_true];refine jj A.length (λk y=>y=((k:Int),cw (A.take k) i 0,cw (A.take k) i 1,cw (A.take k) i 2,cw (A.take k) i 3)) (λk y g hk s K=>?_) (λy g s=>?_) (by simp[cw]) (by omega)
  ·subst s;have t:=h _ (bC hk);have e:zD n (A.take (k+1)):=λa L=>h a (Ky L);have lk:((A.take (k+1)).length:Int)<=300:=by grind
   have M:=vx e i 0;have N:=vx e i 1;have O:=vx e i 2;have P:=vx e i 3;rw[mW hk] at M N O P;simp only[cR hk,if_true,bY hk,aw,HX (hs _ (bC hk)) t.1,AE t.2 (jA t.1 i),RY,bU (show k<1000000 by omega)];refine K _ ?_;rw[mW hk,mW hk,mW hk,mW hk];have T:(mulR (dm A[k].ah i) A[k].ay).bA=dm A[k].ah i * cmp 0 A[k].ay:=rfl;have U:(mulR (dm A[k].ah i) A[k].ay).Mem=dm A[k].ah i * cmp 1 A[k].ay:=rfl;have W:(mulR (dm A[k].ah i) A[k].ay).bE=dm A[k].ah i * cmp 2 A[k].ay:=rfl;have X:(mulR (dm A[k].ah i) A[k].ay).bG=dm A[k].ah i * cmp 3 A[k].ay:=rfl
   grind [wr]
  ·subst s;have ap:∀z:aD,cB o [z]=some (o++[z]):=λz=>Bi (by grind);simp only[eL,bX,cr,fA,bY hi,aw,zcE,ap,bU (show i<1000000 by omega),xr];rw[bx];refine ⟨λu=>?_,λu=>?_⟩
   ·refine (Xp _ _).bind λr v=>?_;refine w _ ⟨?_,rfl,by simp_all⟩;dsimp only;rw[v];have Y:∀c,cmp c ({ bA:=cw A i 0,Mem:=cw A i 1,bE:=cw A i 2,bG:=cw A i 3 }:aD)=cw A i (min c 3):=λc=>by
     match c with
     |0=>rfl
     |1=>rfl
     |2=>rfl
     |c+3=>rw[Nat.min_eq_right (by omega)];rfl
    have Z:∀c,cw A i (min c 3)=cw A i c:=λc=>by
     match c with
     |0=>rfl
     |1=>rfl
     |2=>rfl
     |c+3=>rw[Nat.min_eq_right (by omega)];rfl
    grind
   grind
 ·obtain ⟨E,G,o⟩:=x;obtain ⟨d,b,p⟩:=j;dsimp only at d b p;subst b;simp only[eL,bX,cr,bg];rw[d];exact ⟨λq i hi c=>q i hi hi c,λq i hi _ c=>q i hi c⟩
structure Rh (s:bm) (st:ca) (i:Nat) (a:bV):Prop where
 up:∀m (h:m<st.ae.length),m+1=i->st.ae[m].aW<a.aW
 Ej:∃j∈st.aj,j.Id=a.aW
 shares:ba a.ah s.ai.length
 need:aN a.ay
structure Yw (s:bm) (st:ca):Prop where
 each:∀i (h:i<st.ae.length),Rh s st i st.ae[i]
 fit:JN s.ai st.ae
theorem Yw.Nd{s:bm}{st:ca}(h:Yw s st):zD s.ai.length st.ae:=λa j=>by obtain ⟨i,hi,rfl⟩:=iW j;exact ⟨(h.each i hi).shares,(h.each i hi).need⟩
theorem Ot{s:bm}{st:ca}(d:lw s st):gh (zdo 5000 s st) (Yw s st):=by
 have hl:=d.bq;have u:=d.cn;have hn:=d.spec.nodes;unfold zdo;refine wi st.ae (λi a=>Rh s st i a) (λi f hi p v=>?_) (λf p=>?_) (by omega)
 ·have K:decide ((i:Int) > 0)=decide (0<i):=by simp
  have w:=d.shares _ (bC hi);have fin:(∀m (h:m<st.ae.length),m+1=i->st.ae[m].aW<st.ae[i].aW)->bR ((ZL 5000 st.aj st.ae[i].aW).bind λr=>
    if decide (r<0)=true then some false else (zbw 5000 st.ae[i].ah (s.ai.length:Int)).bind λz=>
    if (!z)=true then some false else (ZB 5000 st.ae[i].ay).bind λg=>if (!g)=true then some false else f ((i+1:Nat):Int)) (λb=>b=true↔Yw s st):=λx=>by
   refine (zp (by omega) st.ae[i].aW).bind λr k=>?_;rw[bx];refine ⟨λh=>cX λq=>?_,λh=>?_⟩
   ·have:=k.1.2 (q.each i hi).Ej
    simp_all
   ·simp only[bz] at h;refine (Hw _ _ (kj w (by decide))).bind λz n=>?_;rw[bx];refine ⟨λh=>cX λq=>?_,λt=>?_⟩
    ·have:=n.2 (q.each i hi).shares
     simp_all
    ·simp only[im,nO] at t;refine (zm _).bind λg o=>?_;rw[bx];refine ⟨λh=>cX λq=>?_,λA=>?_⟩
     ·have:=o.2 (q.each i hi).need
      simp_all
     ·simp only[im,nO] at A;exact v ⟨x,k.1.1 (by omega),n.1 t,o.1 A⟩
  simp only[fA,cR hi,if_true,bY hi,aw,bU (show i<1000000 by omega),K];rw[bx];refine ⟨λh=>?_,λh=>?_⟩
  ·simp only[bz] at h;obtain ⟨m,rfl⟩:∃m,i=m+1:=⟨i-1,by omega⟩;rw[wp1 (show m+1<1000000 by omega),bY (show m<st.ae.length by omega),aw,bx];refine ⟨λt=>cX λq=>?_,λt=>fin λM L e=>?_⟩
   ·have:=(q.each (m+1) hi).up m (by omega) rfl
    grind
   simp_all
  simp_all
 ·simp only[eL,bX,cr];have G:zD s.ai.length st.ae:=λa y=>by
   obtain ⟨j,E,rfl⟩:=iW y;exact ⟨(p j E).shares,(p j E).need⟩
  refine (Vq (by omega) u (λa y=>kj (d.shares a y) (by decide)) G).bind λr v=>?_;rw[bg,v];exact ⟨λh=>⟨λi hi=>p i hi,h⟩,λh=>h.fit⟩
theorem PX{l:List Int}(h:∀i (h:i+1<l.length),l[i]<l[i+1]):l.Pairwise (·<·):=by
 rw[yBh];intro i j hi b a;induction j with
 |zero=>omega
 |succ j ih=>grind
theorem asc_eq{l m:List Int}(hl:l.Pairwise (·<·))(hm:m.Pairwise (·<·))(h:∀x,x∈l↔x∈m):l=m:=by
 induction l generalizing m with
 |nil=>
  cases m with
  |nil=>rfl
  |cons y m=>grind [List.mem_cons_self]
 |cons x l ih=>
  cases m with
  |nil=>grind
  |cons y m=>
   rw[yBw] at hl hm;have e:x=y:=by
    rcases gu.1 ((h x).1 (rJ ..)) with e | a
    ·exact e
    ·rcases gu.1 ((h y).2 (rJ ..)) with e | b
     ·omega
     grind
   grind
theorem nZ{s:bm}{st:ca}{H:List aM}{A:List bV}{F:List aD}(h:eI s st H A F)(f:∀r∈F,aN r):A.map (·.aW)=H.map (·.Id)/\JN F A:=by
 induction H generalizing A F with
 |nil=>rw[show A=[] from h];exact ⟨rfl,λi hi c=>by grind [cw,rB,List.getElem_mem]⟩
 |cons j H ih=>
  obtain ⟨a,g,rfl,k,b,d⟩:=h;obtain ⟨m,e⟩:=ih d (tI b);refine ⟨by grind [eV.Ej],λi hi c=>?_⟩;have:=e i (by grind [ZF]) c;rw[mT,qi,Ci,zr] at this
  grind [Zn]
theorem Ke{s:bm}{st:ca}{n:Int}{H:List aM}{A:List bV}{F:List aD}(d:A.map (·.aW)=H.map (·.Id))(t:∀r∈F,aN r)(g:∀a∈A,∀j∈H,a.aW=j.Id->eV s st j a)(h:zD n A)(m:JN F A):eI s st H A F:=by
 induction H generalizing A F with
 |nil=>
  cases A with
  |nil=>rfl
  |cons a A=>cases d
 |cons j H ih=>
  cases A with
  |nil=>cases d
  |cons a A=>
   rw[ql,ql] at d;have e:a.aW=j.Id:=by simp_all
   have f:A.map (·.aW)=H.map (·.Id):=by simp_all
   have u:=h a (rJ ..);have o:zD n A:=λb hb=>h b (nS _ hb);have fa:um F a:=λi hi=>rB.2 λc=>by have p:=m i hi c;have v:=XM u i c;have w:=vx o i c;have x:=rB.1 (t _ (bC hi)) c;rw[Zn] at p;rw[qi,Ci,zr];omega
   refine ⟨a,A,rfl,g a (rJ ..) j (rJ ..) e,fa,ih f (tI fa) (λb hb k hk=>g b (nS _ hb) k (nS _ hk)) o λi hi c=>?_⟩;have p:=m i (by grind [ZF]) c;rw[mT,qi,Ci,zr]
   grind [Zn]
theorem JP{s:bm}{st:ca}(J:dw s st):((st.aj.filter sM).map (·.Id)).Pairwise (·<·):=by
 have h:(st.aj.map (·.Id)).Pairwise (·<·):=PX λi hi=>by rw[U_,U_];exact J.bN i (by simp_all)
 grind
structure WV (s:bm) (st:ca) (j:aM):Prop where
 has:(∃a∈st.ae,a.aW=j.Id)↔sM j=true
 YN:∀a∈st.ae,a.aW=j.Id->eV s st j a
theorem JJ{s:bm}{st:ca}(k:br s)(J:dw s st)(A:gJ s st):Yw s st/\∀j∈st.aj,WV s st j:=by
 obtain ⟨o,p⟩:=nZ A k.nodes.ok;have pw:=JP J;rw[<-o] at pw;have Al:∀j∈st.aj,∀f∈st.aj,j.Id=f.Id->j=f:=λj b f d e=>by
  obtain ⟨m,n,rfl⟩:=iW b;obtain ⟨t,g,rfl⟩:=iW d;have:=J.bN.inj n g e
  simp_all
 refine ⟨⟨λi hi=>?_,p⟩,λj b=>⟨⟨λ⟨a,h,e⟩=>?_,λr=>?_⟩,λa h e=>?_⟩⟩
 ·obtain ⟨j,b,P⟩:=A.mem _ (bC hi);refine ⟨λm n e=>?_,⟨j,b,P.Ej.symm⟩,P.kJ.shares,by rw[P.need];exact (J.each j b).ok.need⟩
  grind [List.pairwise_iff_getElem]
 ·have:a.aW∈st.ae.map (·.aW):=iP.2 ⟨a,h,rfl⟩
  grind
 ·have:j.Id∈(st.aj.filter sM).map (·.Id):=iP.2 ⟨j,ND.2 ⟨b,r⟩,rfl⟩
  grind
 ·obtain ⟨f,d,P⟩:=A.mem a h
  grind [eV.Ej]
theorem Wu{s:bm}{st:ca}(k:br s)(J:dw s st)(R:Yw s st)(h:∀j∈st.aj,WV s st j):gJ s st:=by
 have pw:(st.ae.map (·.aW)).Pairwise (·<·):=PX λi hi=>by rw[U_,U_];exact (R.each (i+1) (by simp_all)).up i (by grind) rfl
 refine Ke (n:=s.ai.length) (asc_eq pw (JP J) λx=>⟨λf=>?_,λf=>?_⟩) k.nodes.ok (λa d j b e=>(h j (ND.1 b).1).YN a d e) R.Nd R.fit
 ·obtain ⟨a,d,rfl⟩:=iP.1 f;obtain ⟨i,hi,rfl⟩:=iW d;obtain ⟨j,b,e⟩:=(R.each i hi).Ej;exact iP.2 ⟨j,ND.2 ⟨b,(h j b).has.1 ⟨_,d,e.symm⟩⟩,e⟩
 ·obtain ⟨j,b,rfl⟩:=iP.1 f;obtain ⟨a,d,e⟩:=(h j (ND.1 b).1).has.2 (ND.1 b).2
  grind
structure qv (u:D_) (n:Int):Prop where
 shares:ba u.ah n
 xh:u.ah.length<=300
 need:aN u.ay
 lo:0<=u.bO
 hi:u.To<=281474976710656
def jR(u:D_)(k t:Int):aD:=if u.bO<=t/\t<u.To then mulR (dm u.ah k) u.ay else bP
def bj(L:List D_)(k t:Int):aD:=L.foldl (λr u=>sI r (jR u k t)) bP
theorem lW(L:List D_)(u:D_)(k t:Int):bj (L++[u]) k t=sI (bj L k t) (jR u k t):=by simp[bj]
def Dq(B:List kw)(k t:Int):Prop:=∃b∈B,b.Node=k/\b.bO<=t/\t<b.To
open Classical in
noncomputable def bH(q:jt)(k t:Int):aD:=if Dq q.aB k t then bP else fw (kk q.S.ai k) (bj q.L k t)
structure pK (q:jt):Prop where
 spec:br q.S
 now:0<=q.aX/\q.aX<=1099511627776
 cM:yM q.aB q.S.ai.length
 used:∀u∈q.L,qv u q.S.ai.length
 xh:q.L.length<=100
theorem Wh{a b:aD}(d:∀c,0<=cmp c a/\cmp c a<=1099511627776)(hb:∀c,0<=cmp c b/\cmp c b<=1099511627776):RY 5000 a b=some (sI a b):=by
 unfold RY sI;have e:=hb 0;have f:=hb 1;have g:=hb 2;have h:=hb 3;have i:=d 0;have j:=d 1;have k:=d 2;have m:=d 3
 grind [cmp,wr]
theorem pf_sub{a b:aD}(d:∀c,0<=cmp c a/\cmp c a<=1099511627776)(hb:∀c,0<=cmp c b/\cmp c b<=1099511627776):zcE 5000 a b=some (fw a b):=by
 unfold zcE fw;have e:=hb 0;have f:=hb 1;have g:=hb 2;have h:=hb 3;have i:=d 0;have j:=d 1;have k:=d 2;have m:=d 3
 grind [cmp,wr]
theorem SD(a b:aD):∃r,Pq 5000 a b=some r:=⟨_,rfl⟩
theorem If{u:D_}{n:Int}(h:qv u n)(k t:Int)(c:Nat):0<=cmp c (jR u k t)/\cmp c (jR u k t)<=67108864:=by
 unfold jR;split
 ·rw[zr];exact eW (jA h.shares k) (rB.1 h.need c)
 grind [NF]
theorem GP(a:aD):sI a bP=a:=OH λc=>by rw[qO,NF];omega
theorem Hk{L:List D_}{n:Int}(h:∀u∈L,qv u n)(k t:Int)(c:Nat)(i:Nat):0<=cmp c (bj (L.take i) k t)/\cmp c (bj (L.take i) k t)<=67108864 * i:=by
 induction i with
 |zero=>simp[bj,NF]
 |succ i ih=>
  by_cases hi:i<L.length
  ·rw[Fk hi,lW,qO];have:=If (h _ (bC hi)) k t c;omega
  grind [List.take_of_length_le]
section
variable{q:jt}(hq:pK q)
include hq
theorem Zj(k t:Int):zcy 5000 q k t=some (bj q.L k t):=by
 have hl:=hq.xh;unfold zcy;refine bR.eq (jj q.L.length (λi x=>x=((i:Int),(bj (q.L.take i) k t).bA,(bj (q.L.take i) k t).Mem,(bj (q.L.take i) k t).bE,(bj (q.L.take i) k t).bG)) (λi x f hi a g=>?_) (λx f a=>?_) (by simp[bj,bP]) (by omega))
 ·subst a;have u:=hq.used _ (bC hi);have j:=Hk hq.used k t;simp only[fA];rw[if_pos (cR hi),bY hi,aw,bU (show i<1000000 by omega)];have st:bj (q.L.take (i+1)) k t=sI (bj (q.L.take i) k t) (jR q.L[i] k t):=by rw[Fk hi,lW]
  by_cases h:q.L[i].bO<=t/\t<q.L[i].To
  ·rw[if_pos (by simp_all),HX u.xh u.shares,aw,AE u.need (jA u.shares k),aw];have b:jR q.L[i] k t=mulR (dm q.L[i].ah k) q.L[i].ay:=by unfold jR;simp_all
   have d:=If u k t;rw[b] at d;have e:RY 5000 ({ bA:=(bj (q.L.take i) k t).bA,Mem:=(bj (q.L.take i) k t).Mem,bE:=(bj (q.L.take i) k t).bE,bG:=(bj (q.L.take i) k t).bG }:aD) (mulR (dm q.L[i].ah k) q.L[i].ay)=some (sI (bj (q.L.take i) k t) (mulR (dm q.L[i].ah k) q.L[i].ay)):=
    Wh (λc=>by grind) (λc=>by grind)
   simp_all
  ·rw[if_neg (by simp_all)];have b:jR q.L[i] k t=bP:=by unfold jR;grind
   grind [GP]
 ·subst a;dsimp only;rw[if_neg (by simp),bg,xr]
theorem V_(k:Int){t:Int}(d:0<=t):gh (zb0 5000 q.aB k t (i64.wrap (t+1))) (Dq q.aB k t):=by
 have hl:=hq.cM.len;refine (Gp q.aB k t _ (by omega)).mono λr h=>h.trans ?_;constructor
 ·rintro ⟨b,hb,m⟩;obtain ⟨i,hi,rfl⟩:=iW hb;have o:=(hq.cM.each i hi).one;refine ⟨_,hb,m.node,?_,m.r⟩;have e:=m.l;have f:=m.pq;have g:=m.r;have:=o.hi
  grind [wr]
 ·rintro ⟨b,hb,m1,j,a⟩;obtain ⟨i,hi,rfl⟩:=iW hb;have o:=(hq.cM.each i hi).one;have:=o.hi;have:=o.lo;exact ⟨_,hb,m1,by omega,by grind [wr],by grind [wr],a⟩
theorem Rj{k:Nat}(hk:k<q.S.ai.length){t:Int}(b:0<=t):bR (zbT 5000 q k t) λr=>r.1=bH q k t:=by
 unfold zbT;rw[Zj hq,aw];refine (V_ hq k b).bind λr a=>?_;unfold bH;by_cases h:Dq q.aB k t
 ·rw[if_pos h,if_pos (a.2 h)];obtain ⟨x,e⟩:=SD (bj q.L k t) { bA:=0,Mem:=0,bE:=0,bG:=0 };rw[e,aw,bg];rfl
 ·rw[if_neg h,if_neg λe=>h (a.1 e),bY hk,aw];have n:=hq.spec.nodes.ok _ (bC hk);have d:=Hk hq.used k t;have hl:=hq.xh;rw[pf_sub (λc=>by grind [rB]) (λc=>by grind [List.take_length]),wh,wh];obtain ⟨x,e⟩:=SD (bj q.L k t) q.S.ai[k];rw[e,aw,bg];have:kk q.S.ai k=q.S.ai[k]:=by grind [kk]
  rw[this]
end
def timeV(q:jt)(x:Int):Prop:=x=q.aX\/(∃u∈q.L,x=u.bO\/x=u.To)\/∃b∈q.aB,x=b.bO\/x=b.To
structure CO (q:jt) (T:List Int):Prop where
 bN:T.Pairwise λa b=>a<b
 mem:∀x,x∈T↔q.aX<=x/\timeV q x
 len:T.length<=300
structure CR (l:List Int) (now:Int) (T:List Int):Prop where
 bN:T.Pairwise λa b=>a<b
 mem:∀x,x∈T↔now<=x/\x∈l
 len:T.length<=l.length
theorem Xr(l:List Int)(hl:l.length<=300)(d:Int):bR (zc9 5000 l d) (CR l d):=by
 unfold zc9;refine jj l.length (λi x=>x.2=(i:Int)/\CR (l.take i) d x.1) (λi x f hi g u=>?_) (λx f g=>?_) ⟨rfl,by simp,by simp,by simp⟩ (by omega)
 ·obtain ⟨T,y⟩:=x;obtain ⟨rfl,k⟩:=g;dsimp only at k ⊢;have z:=k.len;rw[BV] at z;rw[if_pos (cR hi),fA];have r:l.take (i+1)=l.take i++[l[i]]:=Fk hi;have A:(l.take (i+1)).length=(l.take i).length+1:=by grind
  have same:CR (l.take i) d T->(l[i]<d\/l[i]∈T)->CR (l.take (i+1)) d T:=λh e=>⟨h.bN,λx=>by
   rw[r,ld,zK,h.mem];constructor
   ·grind
   ·rintro ⟨a,b | b⟩
    ·grind
    ·subst b;rcases e with e | e
     ·omega
     ·exact (h.mem _).1 e,by grind⟩
  refine jj T.length (λj x=>x=(j:Int)/\∀m (v:m<T.length),m<j->T[m]<l[i]) (λj x E n g G=>?_) (λx E g=>?_) ⟨rfl,λm _ h=>by omega⟩ (by omega)
  ·obtain ⟨rfl,K⟩:=g;rw[fA,if_pos (cR n),bY n,aw,bY hi,aw,bx];refine ⟨λh=>?_,λh=>?_⟩
   ·simp only[bz] at h
    grind [bU]
   ·simp only[bz] at h;rw[fA,aw,bx];refine ⟨λe=>?_,λe=>?_⟩
    ·simp only[bz] at e;dsimp only;rw[if_pos rfl,bU (show i<1000000 by omega)]
     grind
    ·simp only[bz] at e;rw[if_pos (cR n),aw,aw,bx];refine ⟨λt=>?_,λt=>?_⟩
     ·simp only[nh] at t
      grind [bU]
     ·simp only[nh] at t;rw[xI (yCu n),aw,FR (by grind),aw,aw,Bi (by grind),aw,jT (yCu n),aw,Bi (by grind),aw,bU (show i<1000000 by omega)];have o:T=T.take j++T.drop j:=(J_ ..).symm;have p:=k.bN;rw[o] at p;obtain ⟨p1,L,N⟩:=NJ.1 p;have O:∀x∈T.drop j,l[i]<x:=λx g=>by
       obtain ⟨m,v,rfl⟩:=Nx.1 g
       grind [Nat.eq_zero_or_pos,List.pairwise_iff_getElem]
      have M:∀x∈T.take j,x<l[i]:=λx g=>by
       obtain ⟨m,v,rfl⟩:=Nx.1 g
       grind
      refine u _ ⟨rfl,NJ.2 ⟨NJ.2 ⟨p1,by simp,λa w b hb=>by grind⟩,L,λa w b hb=>?_⟩,λx=>?_,?_⟩
      ·grind
      ·rw[r,ld (s:=l.take i),zK];have:=k.mem x;rw[o,ld] at this;rw[ld,ld,zK];constructor
       ·rintro ((a | a) | a)
        ·grind
        ·omega
        grind
       grind
      grind
  ·obtain ⟨rfl,K⟩:=g;rw[fA,if_neg (by simp)];dsimp only;rw[if_neg (by simp),fA,bY hi,aw,bx];refine ⟨λe=>?_,λe=>?_⟩
   ·simp only[bz] at e;dsimp only;rw[if_pos rfl,bU (show i<1000000 by omega)]
    grind
   ·simp only[bz] at e;rw[if_neg (by simp)];dsimp only;rw[if_neg (by simp)];rw[xI (cO _),aw,FR (by grind),aw,aw,Bi (by grind),aw,jT (cO _),aw,Bi (by grind),aw,bU (show i<1000000 by omega)];rw[xr,List.drop_length,Ec];refine u _ ⟨rfl,NJ.2 ⟨k.bN,by simp,λa w b hb=>?_⟩,λx=>?_,by grind⟩
    ·grind [List.getElem_of_mem]
    ·rw[r,ld,zK,ld,zK,k.mem]
     grind
 ·obtain ⟨T,y⟩:=x;obtain ⟨rfl,k⟩:=g;dsimp only at k ⊢;rw[if_neg (by simp),bg]
  simp_all
theorem Nr{q:jt}(hq:pK q):bR (zbN 5000 q) (CO q):=by
 have hl:=hq.xh;have hb:=hq.cM.len;unfold zbN;refine jj q.L.length (λi x=>x.1=(i:Int)/\x.2.length=1+2 * i/\∀y,y∈x.2↔y=q.aX\/∃u∈q.L.take i,y=u.bO\/y=u.To) (λi x f hi b g=>?_) (λx f b=>?_) ⟨rfl,rfl,λy=>by simp⟩ (by omega)
 ·obtain ⟨y,T⟩:=x;obtain ⟨rfl,e,a⟩:=b;dsimp only at e a ⊢;rw[if_pos (cR hi)];simp only[bY hi,aw];rw[Bi (by grind),aw,Bi (by grind),aw,bU (show i<1000000 by omega)];refine g _ ⟨rfl,by grind,λy=>?_⟩;rw[Fk hi];simp only[ld,zK,a];constructor
  ·rintro (((h | ⟨u,h1,h2⟩) | h) | h)
   ·omega
   ·grind
   ·simp_all
   simp_all
  grind
 ·obtain ⟨y,m⟩:=x;obtain ⟨rfl,j,d⟩:=b;dsimp only at j d ⊢;rw[if_neg (by simp)];rw[xr] at d;refine jj q.aB.length (λi x=>x.1=(i:Int)/\x.2.length=m.length+2 * i/\∀y,y∈x.2↔y∈m\/∃u∈q.aB.take i,y=u.bO\/y=u.To) (λi x f hi b g=>?_) (λx f b=>?_) ⟨rfl,rfl,λy=>by simp⟩ (by omega)
  ·obtain ⟨y,T⟩:=x;obtain ⟨rfl,e,a⟩:=b;dsimp only at e a ⊢;rw[if_pos (cR hi)];simp only[bY hi,aw];rw[Bi (by grind),aw,Bi (by grind),aw,bU (show i<1000000 by omega)];refine g _ ⟨rfl,by grind,λy=>?_⟩;rw[Fk hi];simp only[ld,zK,a];constructor
   ·rintro (((h | ⟨u,h1,h2⟩) | h) | h)
    ·simp_all
    ·grind
    ·simp_all
    simp_all
   grind
  ·obtain ⟨y,T⟩:=x;obtain ⟨rfl,e,a⟩:=b;dsimp only at e a ⊢;rw[if_neg (by simp)];rw[xr] at a;refine (Xr T (by omega) q.aX).bind λR k=>?_;rw[bg];refine ⟨k.bN,λx=>?_,by have:=k.len;omega⟩;rw[k.mem,a,d,or_assoc];rfl
end Go.Plain
end
section
namespace Go.Plain
open Go.Abs
theorem jn_ite{X R:Type}{r:X->Option R}{c:Prop}[Decidable c]{a b:X}:jn r (λj=>if c then j a else j b)=r (if c then a else b):=by grind [Go.Abs.jn]
theorem QF{l:List dj}{n:Int}(h:ba l n){i:Int}:dm l i > 0↔∃x∈l,x.Node=i:=by
 have b:∀x∈l,1<=x.aL:=λx a=>(h.mem x a).2.2.1;clear h;induction l with
 |nil=>simp[dm]
 |cons y l ih=>
  have d:=ih λx a=>b x (nS _ a);have f:=b y (rJ ..);have g:=xU (l:=l) (λx a=>by grind) i;have e:dm (y::l) i=(if y.Node=i then y.aL else 0)+dm l i:=by simp[dm]
  grind
def zz(st:ca)(node b:Int)(a:bV):Prop:=∃j∈st.aj,j.Id=a.aW/\(∃x∈a.ah,x.Node=node)/\b<j.Start+j.aO
theorem TE{s:bm}{st:ca}(u:lw s st)(R:Yw s st)(node d:Int):bR (zdJ 5000 st node d) λb=>dw s st->(b=true↔∃a∈st.ae,zz st node d a):=by
 have hl:=u.bq;have N:=u.cn;unfold zdJ;refine wi st.ae (λi a=>dw s st->¬zz st node d a) (λi f hi K v=>?_) (λf K=>?_) (by omega)
 ·simp only[fA,cR hi,if_true,bY hi,aw,bU (show i<1000000 by omega)];have t:=bC hi;refine (zp (by omega) st.ae[i].aW).bind λr w=>?_;rw[bx];refine ⟨λh=>?_,λh=>?_⟩
  ·simp only[bz] at h;have g:=w.2.1 h;have S:=(R.each i hi).shares;obtain ⟨L,e⟩:=FF (l:=st.aj) g.lo (by have:=g.lo;have:=g.hi;omega);have y:=bC L;have fin:bR (if decide (i64.wrap (st.aj[r.toNat].Start+st.aj[r.toNat].aO) > d)=true then some true else f ((i+1:Nat):Int)) (λb=>(∃x∈st.ae[i].ah,x.Node=node)->dw s st->(b=true↔∃a∈st.ae,zz st node d a)):=by
    rw[bx];refine ⟨λk=>?_,λk=>?_⟩
    ·rw[bg];intro z J;have o:=(J.each _ y).ok;have:=o.start;have:=o.wall;rw[wr (by omega) (by omega)] at k;simp only[bz] at k;exact ⟨λ_=>⟨_,t,_,y,g.is,z,k⟩,λ_=>rfl⟩
    ·refine (v λJ E=>?_).mono λb hb _=>hb;obtain ⟨j,n,G,-,M⟩:=E;have:j=st.aj[r.toNat]:=by
      obtain ⟨m,O,rfl⟩:=iW n;have:=J.bN.inj O L (by rw[G,g.is])
      simp_all
     subst this;have o:=(J.each _ y).ok;have:=o.start;have:=o.wall;rw[wr (by omega) (by omega)] at k
     simp_all
   rw[HX (kj (u.shares _ t) (by decide)) S,aw,e,bx];simp only[aw];refine ⟨λk=>?_,λk=>?_⟩
   ·simp only[bz] at k
    grind [QF]
   ·simp only[bz] at k;rw[if_neg (by simp)];exact v λJ ⟨j,n,G,p,M⟩=>k ((QF S).2 p)
  ·simp only[bz] at h;rw[if_neg (by simp)];exact v λJ ⟨j,n,G,p,M⟩=>by simp_all
 ·simp only[eL,bX,cr,bg,ET];rintro J ⟨a,t,E⟩;exact CI (A:=λa=>dw s st->¬zz st node d a) K a t J E
theorem Uh{s:bm}{st:ca}(v:lw s st)(R:Yw s st):bR (zdE 5000 s st) λb=>dw s st->(b=true↔yL s st):=by
 have hl:=v.cM;unfold zdE;refine wi st.aB (λi b=>(b.Id<st.dE/\st.aX<b.To)/\(dw s st->¬∃a∈st.ae,zz st b.Node b.bO a)) (λi f hi w g=>?_) (λf w=>?_) (by omega)
 ·simp only[fA,cR hi,if_true,bY hi,aw,bU (show i<1000000 by omega)];have hb:=bC hi;rw[bx];refine ⟨λh=>?_,λh=>?_⟩
  ·rw[bg];intro J;simp only[gz,bz] at h;simp only[bX,ET];exact λq=>by have:=q.live _ hb;omega
  ·simp only[gz,bz] at h;refine (TE v R _ _).bind λr d=>?_;rw[bx];refine ⟨λk=>?_,λk=>g ⟨by omega,λJ=>λq=>k ((d J).2 q)⟩⟩;rw[bg];intro J;simp only[bX,ET];intro q;obtain ⟨a,n,j,o,e,⟨x,p,t⟩,u⟩:=(d J).1 k;exact q.yU a n j o e x p _ hb t.symm u
 ·simp only[eL,bX,cr];refine (WS _ _ (by omega)).bind λr g=>?_;rw[bg];intro J;rw[g];refine ⟨λh=>⟨h,λb hb=>?_,λa n j o e x p b hb t u=>?_⟩,λq=>q.cM⟩
  ·grind [List.getElem_of_mem]
  ·obtain ⟨m,y,rfl⟩:=iW hb;exact (w m y).2 J ⟨a,n,j,o,e,⟨x,p,t.symm⟩,u⟩
structure AtA (l:List bV) (id:Int) (r:Int):Prop where
 lo:0<=r
 hi:r.toNat<l.length
 is:l[r.toNat].aW=id
theorem TK{l:List bV}(hl:l.length<=300)(id:Int):bR (zeh 5000 l id) λr=>(0<=r↔∃a∈l,a.aW=id)/\(0<=r->AtA l id r):=by
 unfold zeh;refine wi l (λ_ j=>j.aW≠id) (λi f h _ b=>?_) (λf h=>?_) (by omega)
 ·simp only[cR h,if_true,bY h,aw,bU (show i<1000000 by omega),bx,bg,nh];exact ⟨λe=>⟨⟨λ_=>⟨_,bC h,e⟩,λ_=>by omega⟩,λ_=>⟨by omega,by omega,by simp_all⟩⟩,λe=>b e⟩
 ·simp only[eL,bX,cr,bg];refine ⟨⟨λh=>by omega,λ⟨j,d,e⟩=>absurd e (CI (A:=λj=>j.aW≠id) h j d)⟩,λh=>by omega⟩
theorem Yw.Al{s:bm}{st:ca}(R:Yw s st){i j:Nat}(hi:i<st.ae.length)(o:j<st.ae.length)(e:st.ae[i].aW=st.ae[j].aW):i=j:=by
 have pw:(st.ae.map (·.aW)).Pairwise (·<·):=PX λi hi=>by rw[U_,U_];exact (R.each (i+1) (by simp_all)).up i (by grind) rfl
 grind [List.pairwise_iff_getElem]
structure OZ (s:bm) (st:ca) (j:aM):Prop where
 Nz:f_ s st j
 waits:Gc s st j
 has:WV s st j
theorem aah{s:bm}(k:br s){st:ca}(t:lw s st)(R:Yw s st){j:aM}(T:j∈st.aj):gh (zeP 5000 s st j) (OZ s st j):=by
 have kv:=k.tO;have hl:=t.bq;have E:=t.cn;unfold zeP;refine (Fm j (t.after j T)).bind λr u=>?_;rw[bx];refine ⟨λh=>cX λq=>?_,λh=>?_⟩
 ·have:=u.2 q.Nz.ok;rw[this] at h;simp only[gz,bz,Ny,bX,false_or] at h;have:=q.Nz.next;have:=q.Nz.user;have:=q.Nz.queue;have:=q.Nz.born;have:=q.Nz.start;have:=q.Nz.fin;omega
 ·simp only[gz,bz,not_or,im,nO] at h;have p:=u.1 h.1.1.1.1.1.1;have U:=p.state.st;have X:=p.start;have Y:=p.wall;simp only[jn_ite];generalize Z:(if decide (j.State≥5)=true then (3:Int) else if (j.State == 4)=true then 2 else if (j.State == 3)=true then 1 else 0)=e;have ev:e=i_ j.State:=by
   rw[<-Z];simp only[i_,bz,nh,ge_iff_le];omega
  have eb:=DD j.State;refine (TK E j.Id).bind λr8 v=>?_;simp only[fA,zeO,aw];rw[ev,wr (x:=s.aI+i_ j.State) (by omega) (by omega),bx];refine ⟨λO=>cX λq=>?_,λO=>?_⟩
  ·have:=q.Nz.version
   grind
  ·simp only[bz] at O;have I:f_ s st j:=⟨p,by omega,by omega,by omega,by omega,by omega,by omega,by omega⟩;have eh:((j.State == 3) || (j.State == 4))=sM j:=rfl;rw[eh,bx];refine ⟨λh3=>cX λq=>?_,λh3=>?_⟩
   ·have:=q.has.has
    simp_all
   ·have n:(∃a∈st.ae,a.aW=j.Id)↔sM j=true:=by
     grind
    rw[bx];refine ⟨λG=>rH ?_,λG=>?_⟩
    ·simp only[bz] at G;refine ⟨I,λhs=>by omega,n,λa A e=>?_⟩
     grind
    ·simp only[bz] at G;have A:=p.mO;refine wi j.aF (λ_ d=>∃i∈st.aj,i.Id=d.aW) (λm g w P hr=>?_) (λg P=>?_) (by omega)
     ·simp only[cR w,if_true,bY w,aw,bU (show m<1000000 by omega)];refine (zp (by omega) j.aF[m].aW).bind λr y=>?_;rw[bx];refine ⟨λz=>cX λq=>?_,λz=>hr (y.1.1 ?_)⟩
      ·have:=y.1.2 ((q.waits (by omega)).after _ (bC w))
       simp_all
      simp_all
     ·simp only[eL,bX,cr];obtain ⟨b,e1,e2⟩:=Qw t.spec k (q:=j.Queue) (m:=j.aL) p.need p.ux;rw[e2,aw,bx];refine ⟨λz=>cX λq=>?_,λz=>?_⟩
      ·have:=(q.waits (by omega)).fits
       simp_all
      ·simp only[im,nO] at z;subst z;have W:Gc s st j:=λ_=>⟨e1,CI P⟩;rw[bx];refine ⟨λK=>rH ⟨I,W,n,λa A e=>?_⟩,λK=>?_⟩
       ·simp_all
       ·simp only[im,nO] at K;have r0:=v.1.2 (n.2 K);have f:=v.2 r0;obtain ⟨Q,e3⟩:=FF (l:=st.ae) f.lo (by have:=f.lo;have:=f.hi;omega);have o:=bC Q;rw[wr (x:=j.Start+j.aO) (by omega) (by omega),e3,bx];simp only[aw];refine ⟨λL=>?_,λL=>cX λq=>?_⟩
        ·simp only[bz] at L;rw[bx];refine ⟨λM=>?_,λM=>cX λq=>M (fy.2 (q.has.YN _ o f.is).need)⟩;have eN:=fy.1 M;refine (Ww t.spec k j _ (kj (t.shares _ o) (by decide))).bind λr N=>?_;rw[bg,N];refine ⟨λS=>⟨I,W,n,λa A e=>?_⟩,λq=>(q.has.YN _ o f.is).kJ⟩;have:a=st.ae[r8.toNat]:=by
          obtain ⟨m,w,rfl⟩:=iW A;have:=R.Al w Q (by rw[e,f.is])
          simp_all
         subst this;exact ⟨e,eN,S,L⟩
        ·have:=(q.has.YN _ o f.is).now
         simp_all
theorem Gg{s:bm}{st:ca}(b:lw s st):gh (zcL 5000 s st) (aY s st):=by
 have hl:=b.bq;have hq:=b.stamps;have S:=b.use;unfold zcL;simp only[fA];refine (Tl s b.spec).bind λr e=>?_;rw[bx];refine ⟨λh=>?_,λh=>?_⟩
 ·rw[if_pos trivial];refine cX λq=>?_;have:=e.2 q.spec;rw[this] at h;have T:=q.spec.ids;have:=q.nums.now;have:=q.nums.next;have:=q.nums.book;rw[wr (x:=s.jG+1) (by omega) (by omega)] at h
  grind
 ·simp only[gz,bz,not_or,im,nO] at h;have k:=e.1 h.1.1.1.1.1;have T:=k.ids;rw[wr (x:=s.jG+1) (by omega) (by omega)] at h;refine (Iv st.dE).bind λr2 g=>?_;rw[bx];refine ⟨λw=>cX λq=>?_,λw=>?_⟩
  ·have:=g.2 (by have:=q.nums.book;omega)
   simp_all
  ·simp only[im,nO] at w;have u2:=g.1 w;have W:Py s st:=⟨by omega,by omega,by omega⟩;rw[bx];refine ⟨λO=>?_,λO=>?_⟩
   ·rw[if_pos trivial];refine cX λq=>?_;have:=q.bq.len
    grind
   ·simp only[bz] at O;refine (Ot b).bind λr4 y=>?_;rw[bx];refine ⟨λz=>?_,λz=>?_⟩
    ·rw[if_pos trivial];refine cX λq=>?_
     grind [JJ,aY.bq,aY.cn]
    ·simp only[im,nO] at z;have R:=y.1 z;refine (Uh b R).bind λr5 A=>?_;rw[bx];refine ⟨λE=>?_,λE=>?_⟩
     ·rw[if_pos trivial];refine cX λq=>?_
      grind [aY.bq,aY.jh]
     ·simp only[im,nO] at E;refine (ref_use st.kH s.aR (by omega)).bind λr6 n=>?_;rw[bx];refine ⟨λu=>?_,λu=>?_⟩
      ·rw[if_pos trivial];refine cX λq=>?_;have:=n.2 ⟨q.use.len,q.use.use⟩;rw[this] at u;have:=q.use.qlen
       simp_all
      ·simp only[gz,Jt,ne_eq,not_or,UJ,im,nO] at u;have P:=n.1 u.1;refine (Iv st.az.ai).bind λr7 o=>?_;rw[bx];refine ⟨λG=>cX λq=>?_,λG=>?_⟩
       ·have:=o.2 q.use.nodes
        simp_all
       ·simp only[im,nO] at G;have X:=o.1 G;refine wi st.az.aq (λ_ x=>0<=x/\x<=281474976710656) (λi f hi _ v=>?_) (λf Y=>?_) (by omega)
        ·simp only[cR hi,if_true,bY hi,aw,bU (show i<1000000 by omega)];refine (Iv _).bind λr8 p=>?_;rw[bx];refine ⟨λZ=>cX λq=>?_,λZ=>v (p.1 (by simp_all))⟩;have:=p.2 (q.use.stamps _ (bC hi))
         simp_all
        ·simp only[eL,bX,cr];have U:LV s st:=⟨P.1,P.2,by omega,X,CI Y⟩;refine wi st.aj (λi j=>OZ s st j/\HU st.aj i<j.Id) (λi f hi _ v=>?_) (λf Q=>?_) (by omega)
         ·have hd:decide ((i:Int) > 0)=decide (0<i):=by simp
          have a:=bC hi;simp only[cR hi,if_true,bY hi,aw,bU (show i<1000000 by omega),hd];refine (aah k b R a).bind λr9 t=>?_;rw[bx];refine ⟨λK=>cX λq=>?_,λK=>?_⟩
          ·have:=t.2 ⟨q.bq.each _ a,q.waits _ a,(JJ k q.bq q.cn).2 _ a⟩
           simp_all
          ·simp only[im,nO] at K;have L:=t.1 K;rw[bx];refine ⟨λd=>?_,λd=>?_⟩
           ·simp only[bz] at d;obtain ⟨m,rfl⟩:∃m,i=m+1:=⟨i-1,by omega⟩;rw[wp1 (show m+1<1000000 by omega),bY (show m<st.aj.length by omega),aw,bx];refine ⟨λM=>cX λq=>?_,λM=>v ⟨L,?_⟩⟩
            ·have:=q.bq.bN m hi
             grind
            ·rw[vA (by omega)]
             simp_all
           ·simp only[bz] at d;have:i=0:=by omega
            subst this;refine v ⟨L,?_⟩;have:=L.Nz.ok.id
            grind [HU]
         ·simp only[eL,bX,cr];have N:dw s st:=RQ (by omega) λi hi=>⟨(Q i hi).1.Nz,(Q i hi).2⟩;have all:∀j∈st.aj,OZ s st j:=λj a=>by
           grind [List.getElem_of_mem]
          exact rH ⟨k,W,N,λj a=>(all j a).waits,Wu k N R λj a=>(all j a).has,(A N).1 E,U⟩
theorem ry{l:List Int}(h:l.length<=1000000):za0 5000 l=some l:=by unfold za0;exact FR h
theorem HM{s:bm}(hs:lX s):zcT 5000 s=some s:=by
 have e:=hs.nodes;have g:=hs.parts;have h:=hs.iq;unfold zcT;rw[Bh (by omega),aw,show zck 5000 s.aH=some s.aH from FR (by omega),aw];refine bR.eq (jj s.aH.length (λi x=>x=((i:Int),s.aH)) (λi x f hi a b=>?_) (λx f a=>?_) rfl (by omega))
 ·subst a;have d:=hs.part _ (bC hi);simp only[cR hi,if_true,bY hi,aw,bU (show i<1000000 by omega),ry (show s.aH[i].length<=1000000 by omega),Int.toNat_natCast,yCf]
  simp_all
 ·subst a;simp only[eL,bX,cr];rw[show zbi 5000 s.aq=some s.aq from FR (by omega),aw];refine jj s.aq.length (λi x=>x=((i:Int),s.aq)) (λi x f hi a b=>?_) (λx f a=>?_) rfl (by omega)
  ·subst a;have d:=hs.queue _ (bC hi);simp only[cR hi,if_true,bY hi,aw,bU (show i<1000000 by omega),ry (show s.aq[i].aR.length<=1000000 by omega),Int.toNat_natCast,yCf];exact b _ (Prod.ext rfl (yCf hi))
  ·subst a;simp only[eL,bX,cr,bg]
theorem UQ{n:Int}(h:1<=n/\n<=8):pA 5000 n=some (List.replicate n.toNat 0):=by simp only[pA,ZR];rw[if_neg (by grind),if_neg (by simp_all)];simp only[aw,EW];rw[if_pos (by omega)];rfl
theorem UW{n:Int}(h:1<=n/\n<=256):zd8 5000 n=some (.inr n):=by
 simp only[zd8]
 simp_all
theorem new_ok{s:bm}(hs:lX s)(k:br s):fJ 5000 s=some (.inr (List.replicate s.aq.length 0,[],s.ai,s.aH,s.aq,s.aR,s.am.kF,s.am.cT,s.am.fC,s.am.bL,s.bS,s.Mode,s.aj,s.jG,s.aI,s.bo,s.dg,s.In,s.Out,s.bT,0,1,1,List.replicate s.aR.toNat 0,0,s.aj,s.ai)):=by have a:=hs.iq;unfold fJ;rw[Ba hs k,aw,if_neg (by simp),UW k.bq,aw];dsimp only;rw[Ev hs k,aw];dsimp only;rw[HM hs,aw,UQ k.Aa,aw];unfold EW;rw[if_pos (by omega),aw];rw[yCl]
theorem CA{j:aM}(h:j.aF.length<=1000000):jr 5000 j=some j:=by unfold jr;rw[show zaD 5000 j.aF=some j.aF from FR h];rfl
theorem LK{l:List aM}(hl:l.length<=300)(b:∀j∈l,j.aF.length<=10):zcG 5000 l=some l:=by
 unfold zcG;rw[show zbE 5000 l=some l from FR (by omega),aw];refine bR.eq (jj l.length (λi x=>x=((i:Int),l)) (λi x f hi a d=>?_) (λx f a=>?_) rfl (by omega))
 ·subst a;have e:=b _ (bC hi);simp only[cR hi,if_true,bY hi,aw,bU (show i<1000000 by omega),CA (show l[i].aF.length<=1000000 by omega),Int.toNat_natCast,yCf]
  simp_all
 ·subst a;simp only[eL,bX,cr,bg]
def mapA(A:List bV):List (Int×bV):=A.map λa=>(a.aW,a)
def zT(A:List bV):Prop:=(A.map (·.aW)).Pairwise (·<·)
theorem YY{A:List bV}(h:zT A):∀i (hi:i<A.length),dq (mapA A) A[i].aW=some A[i]:=by
 induction A with
 |nil=>simp_all
 |cons a A ih=>
  unfold zT at h;rw[ql,yBw] at h;intro i hi
  match i,hi with
  |0,hi=>simp[mapA,dq]
  |i + 1, hi=>
   have b:i<A.length:=by simp_all
   have:=h.1 A[i].aW (iP.2 ⟨_,bC b,rfl⟩);have e:dq (mapA (a::A)) A[i].aW=dq (mapA A) A[i].aW:=by
    simp only[mapA,ql,dq]
    grind
   rw[List.getElem_cons_succ,e];exact ih h.2 i b
theorem GL{A:List bV}{q:Int}(h:∀a∈A,a.aW≠q):dq (mapA A) q=none:=by
 induction A with
 |nil=>rfl
 |cons a A ih=>simp only[mapA,ql,dq];rw[if_neg (h a (rJ ..))];exact ih λb hb=>h b (nS _ hb)
theorem XG{A:List bV}{a:bV}(h:∀b∈A,b.aW≠a.aW):kr (mapA A) a.aW a=mapA (A++[a]):=by
 induction A with
 |nil=>rfl
 |cons b A ih=>
  have:=ih λc d=>h c (nS _ d);simp only[mapA,JS,ql,kr] at this ⊢
  simp_all
theorem i64wf{n:Int}(h:0<=n/\n<=1048576):(Lit.int .i64 n).wf=true:=by
 have a:IntKind.i64.min=-9223372036854775808:=by decide
 have b:IntKind.i64.max=9223372036854775807:=by decide
 simp only[Lit.wf,bI,bz,a,b];omega
theorem HY{A:List bV}(hl:A.length<=300)(h:zT A)(i:∀a∈A,0<=a.aW/\a.aW<=1048576):yB (λk=>k) (mapA A)=some (A.map (·.aW)):=by
 have e:(mapA A).map Prod.fst=A.map (·.aW):=by simp[mapA]
 unfold yB;have b:∀p∈mapA A,(Lit.int .i64 p.1).wf=true:=λp d=>by
  obtain ⟨a,j,rfl⟩:=iP.1 d
  grind [i64wf]
 have f:(A.map (·.aW)).Nodup:=h.imp λh=>by omega
 have g:(mapA A).length<=1000000:=by grind [mapA]
 rw[e,if_pos ⟨g,f,b⟩,List.mergeSort_of_pairwise (h.imp λh=>by grind)];simp
theorem Dk{A:List bV}(hl:A.length<=300)(h:zT A)(g:∀a∈A,0<=a.aW/\a.aW<=1048576)(hs:∀a∈A,a.ah.length<=300):a_ 5000 (mapA A)=some A:=by
 unfold a_;rw[HY hl h g,aw];refine bR.eq (jj (A.map (·.aW)).length (λi x=>x=((i:Int),A.take i)) (λi x f hi d j=>?_) (λx f d=>?_) (by simp) (by grind))
 ·subst d;have b:i<A.length:=by simp_all
  have e:=YY h i b;have k:=hs _ (bC b);simp only[cR hi,if_true,bY hi,aw,bU (show i<1000000 by omega),U_,e,oel,He (show A[i].ah.length<=1000000 by omega)]
  grind [Bi,List.take_succ_eq_append_getElem]
 ·subst d;simp only[eL,bX,cr,bg,wX,xr]
theorem Bz{l:List kw}(h:l.length<=1000000):zaV 5000 l=some l:=by unfold zaV;exact FR h
theorem beq_dep(a:Hg):Hg.beq a a=true:=by simp[Hg.beq]
theorem Uw(a:dj):dj.beq a a=true:=by simp[dj.beq]
theorem Xz(a:kw):kw.beq a a=true:=by simp[kw.beq]
theorem Ln(a:aD):aD.beq a a=true:=fy.2 rfl
theorem lpT{α:Type}{b:(Int->Option Bool)->Int->Option Bool}(l:List α)(hs:∀(i:Nat)(f:Int->Option Bool)(h:i<l.length),b f (i:Int)=f ((i+1:Nat):Int))(a:∀f,b f (l.length:Int)=some true){N:Nat}(d:l.length<N):bF b N 0=some true:=
 bR.eq (wi l (λ_ _=>True) (λi f h _ e=>by simp_all) (λf _=>by rw[a];exact ⟨_,rfl,rfl⟩) d)
theorem FX(l:List Int)(hl:l.length<=300):zda 5000 l l=some true:=by
 unfold zda;rw[if_neg (by simp)];refine lpT l (λi f h=>?_) (λf=>?_) (by omega)
 ·simp only[cR h,if_true,bY h,aw,bU (show i<1000000 by omega),yCz,bX,cr]
 ·simp only[eL,bX,cr]
theorem YZ(j:aM)(hl:j.aF.length<=300):zel 5000 j j=some true:=by
 unfold zel;rw[if_neg (by simp)];refine lpT j.aF (λi f h=>?_) (λf=>?_) (by omega)
 ·simp only[cR h,if_true,bY h,aw,bU (show i<1000000 by omega),beq_dep,Ny,bX,cr]
 ·simp only[eL,bX,cr,yCp,Ln,Bool.and_self]
theorem UO(l:List aM)(hl:l.length<=300)(a:∀j∈l,j.aF.length<=10):zei 5000 l l=some true:=by
 unfold zei;rw[if_neg (by simp)];refine lpT l (λi f h=>?_) (λf=>?_) (by omega)
 ·have:=a _ (bC h);simp only[cR h,if_true,bY h,aw,bU (show i<1000000 by omega),YZ l[i] (by omega),Ny,bX,cr]
 ·simp only[eL,bX,cr]
theorem MU(l:List dj)(hl:l.length<=300):zep 5000 l l=some true:=by
 unfold zep;rw[if_neg (by simp)];refine lpT l (λi f h=>?_) (λf=>?_) (by omega)
 ·simp only[cR h,if_true,bY h,aw,bU (show i<1000000 by omega),Uw,Ny,bX,cr]
 ·simp only[eL,bX,cr]
theorem MY(l:List bV)(hl:l.length<=300)(b:∀a∈l,a.ah.length<=300):zec 5000 l l=some true:=by
 unfold zec;rw[if_neg (by simp)];refine lpT l (λi f h=>?_) (λf=>?_) (by omega)
 ·have:=b _ (bC h);simp only[fA,cR h,if_true,bY h,aw,bU (show i<1000000 by omega),yCz,Ln,MU l[i].ah this,Ny,bX,cr]
 ·simp only[eL,bX,cr]
theorem Qe(l:List kw)(hl:l.length<=300):zej 5000 l l=some true:=by
 unfold zej;rw[if_neg (by simp)];refine lpT l (λi f h=>?_) (λf=>?_) (by omega)
 ·simp only[cR h,if_true,bY h,aw,bU (show i<1000000 by omega),Xz,Ny,bX,cr]
 ·simp only[eL,bX,cr]
theorem Pc{s:bm}{st:ca}(a:lw s st):zeb 5000 st st=some true:=by have b:=a.bq;have d:=a.use;have e:=a.stamps;have f:=a.cM;unfold zeb;rw[if_pos (by simp),UO _ (by omega) a.after,aw,if_pos rfl,MY _ a.cn a.sh,aw,if_pos rfl,Qe _ (by omega),aw,if_pos rfl,FX _ (by omega),aw,if_pos rfl,FX _ (by omega),aw];simp
theorem Kf{l:List aM}(h:bW l)(n:Nat):bW (l.take n):=λi hi=>by rw[BV] at hi;rw[SC,SC];exact h i (by omega)
theorem WJ{l:List aM}(hl:l.length<=300)(hs:bW l){id:Int}(h:∀j∈l,j.Id<id):zaN 5000 l id=some ((l.length:Int),false):=by
 unfold zaN;have e:(bF (λb (a:Int×Int)=>
   if (decide (a.1<a.2))=true then
    (
     (aE l (i64.wrap (Int.fdiv (u64.wrap (i64.wrap (a.1+a.2))) (2 ^ 1)))).bind λd=>
     some (decide (d.Id≥id))).bind λg=>
    if (!g)=true then
     b ((i64.wrap ((i64.wrap (Int.fdiv (u64.wrap (i64.wrap (a.1+a.2))) (2 ^ 1)))+1)),a.2)
    else
     b (a.1,(i64.wrap (Int.fdiv (u64.wrap (i64.wrap (a.1+a.2))) (2 ^ 1))))
   else
    some a.1) 5000 (0,(l.length:Int)))=some (l.length:Int):=by
  refine bR.eq (half hl hs id (λj=>some (decide (j.Id<id))) (λj k=>rfl) (λi=>some i) (λi hi m n=>?_) _ (λf x=>?_))
  ·rw[bg];rcases WB hi with q | q
   ·grind
   ·rw[q]
  grind
 simp_all
theorem put_ok{l:List aM}{n:Nat}(hn:n<l.length)(hl:l.length<=300)(hs:bW l){m:Int}(hm:(l.length:Int)<=m)(a:gn l[n]):zbX 5000 (l.take n) l[n] m=some (l.take (n+1),0):=by
 obtain ⟨r,e,h⟩:=Bf l[n];have b:=h.2 a;subst b;have d:=a.mO;have f:(l.take n).length=n:=by grind
 unfold zbX;rw[e,aw,if_neg (by simp),WJ (by omega) (Kf hs n) (λj a=>?_),aw]
 ·rw[if_neg (by simp),if_neg (by grind),CA (by omega),aw];unfold zbl;have sl:slice? (l.take n) ((l.take n).length:Int) ((l.take n).length:Int)=some []:=by
   unfold slice?
   simp_all
  rw[sl,aw,if_neg (by simp),if_pos (by simp),Bi (by grind),aw,aw,Fk hn]
 ·obtain ⟨i,hi,rfl⟩:=iW a;rw[SC];exact hs.lt (by omega) hn
def aV(F:List aD)(l:List bV):List aD:=l.foldl kL F
structure TInv (s:bm) (st:ca) (i:Nat) (x:Int×(List aD)×List (Int×bV)):Prop where
 ix:x.1=(i:Int)
 h:∃H,eI s st H (st.ae.drop i) x.2.1
 len:x.2.1.length=s.ai.length
 Wa:∀r∈x.2.1,aN r
 m:x.2.2=mapA (st.ae.take i)
 fr:x.2.1=aV s.ai (st.ae.take i)
theorem Az{s:bm}{st:ca}(q:aY s st):zT st.ae:=by have h:=(nZ q.cn q.spec.nodes.ok).1;unfold zT;rw[h];exact JP q.bq
theorem Gy{s:bm}{st:ca}(q:aY s st):∀a∈st.ae,0<=a.aW/\a.aW<=1048576:=λa b=>by
 obtain ⟨j,d,P⟩:=q.cn.mem a b;have:=(q.bq.each j d).ok.id
 grind [eV.Ej]
theorem of_ok{s:bm}{st:ca}(d:lw s st)(q:aY s st):dA 5000 s st=some (.inr (st.az.aq,st.aj,(st.ae.map λa=>(a.aW,a)),s.ai,s.aH,s.aq,s.aR,s.am.kF,s.am.cT,s.am.fC,s.am.bL,s.bS,s.Mode,s.aj,s.jG,s.aI,s.bo,s.dg,s.In,s.Out,s.bT,st.aX,st.Next,st.dE,st.aB,st.kH,st.az.ai,s.aj,aV s.ai st.ae)):=by
 have hl:=d.bq;have R:=d.cn;have hn:=d.spec.nodes;have hb:=d.cM;have X:=d.use;have hs:=d.stamps;obtain ⟨r,e,h⟩:=Ko d;have k:=h.2 q;subst k;have S:=q.bq.len;have y:=Az q;unfold dA;rw[e,aw,if_neg (by simp),new_ok d.spec q.spec,aw];dsimp only;refine bR.eq ?_;refine jj st.aj.length (λi x=>x=((i:Int),st.aj.take i)) (λi x f hi g k=>?_) (λx f g=>?_) rfl (by omega)
 ·subst g;simp only[cR hi,if_true,bY hi,aw,bU (show i<1000000 by omega),put_ok hi hl q.bq.bN S (q.bq.each _ (bC hi)).ok,yCz,bX,cr]
  simp_all
 ·subst g;simp only[eL,bX,cr];refine jj st.ae.length (TInv s st) (λi x f hi g k=>?_) (λx f g=>?_) ⟨rfl,⟨_,by rw[yC0];exact q.cn⟩,rfl,q.spec.nodes.ok,rfl,rfl⟩ (by omega)
  ·obtain ⟨U,F,M⟩:=x;obtain ⟨n,p,t,u,v,w⟩:=g;dsimp only at n p t u v w;subst n;have N:=bC hi;have A:=d.sh _ N;obtain ⟨H,E⟩:=p;rw[yBR hi] at E;obtain ⟨j,W,P⟩:=q.cn.mem _ N;have G:=(q.bq.each j W).ok;have K:um F st.ae[i]/\∃O,eI s st O (st.ae.drop (i+1)) (kL F st.ae[i]):=by
    cases H with
    |nil=>cases (show st.ae[i]::st.ae.drop (i+1)=[] from E)
    |cons Y O=>
     obtain ⟨Z,A',e',-,hf,k⟩:=E
     grind
   have Q:∀b∈st.ae.take i,b.aW≠st.ae[i].aW:=λb hb=>by
    obtain ⟨m,L,rfl⟩:=iW hb;rw[BV] at L;rw[SC];have:=yBh.1 y m i (by grind) (by simp_all) (by omega)
    grind
   have T:tR M F st.ae[i]:=⟨by have:=G.id;have:=P.Ej;omega,QK (by have:=G.many;have:=P.kJ.TU;omega),by rw[t];exact P.kJ.shares,by rw[P.need];exact G.need,by grind [GL],K.1⟩;simp only[cR hi,if_true,bY hi,aw,bU (show i<1000000 by omega)];refine (Jp (M:=M) (a:=st.ae[i]) (F:=F) (by omega) A u).bind λr o=>?_;have z:=o.1.2 T;obtain ⟨eM,bh⟩:=o.2 z;rw[z];simp only[yCz,bX,cr];refine k _ ⟨rfl,?_,?_,?_,?_,?_⟩
   ·grind [qy.eq]
   ·grind [qy.eq,ZF]
   ·grind [qy.eq,tI]
   ·grind [XG,List.take_succ_eq_append_getElem]
   grind [qy.eq,List.take_succ_eq_append_getElem,aV.eq_1]
  ·obtain ⟨U,F,M⟩:=x;obtain ⟨n,p,t,u,v,w⟩:=g;dsimp only at n p t u v w;subst n;simp only[eL,bX,cr];rw[show za8 5000 st.aB=some st.aB from FR (by omega),aw,show zbm 5000 st.kH=some st.kH from FR (by omega),aw,show zbm 5000 st.az.aq=some st.az.aq from FR (by omega),aw,bg];rw[v,w,xr,xr];rfl
theorem of_no{s:bm}{st:ca}(a:lw s st)(q:¬aY s st):dA 5000 s st=some (.inl 2):=by
 obtain ⟨r,e,h⟩:=Ko a;have:r=false:=by simp_all
 grind [Go.Abs.dA]
theorem shown{s:bm}{st:ca}(b:lw s st)(q:aY s st) :
  Th 5000 st.az.aq st.aj (st.ae.map λa=>(a.aW,a)) st.aX st.Next st.dE st.aB st.kH st.az.ai=some st:=by
 have hl:=b.bq;have hb:=b.cM;have d:=b.use;have hs:=b.stamps;unfold Th;rw[LK (by omega) b.after,aw,show a_ 5000 (st.ae.map λa=>(a.aW,a))=some st.ae from Dk b.cn (Az q) (Gy q) b.sh,aw,Bz (by omega),aw,ry (by omega),aw,show zb3 5000 st.az.aq=some st.az.aq from FR (by omega),aw]
theorem Td{s:bm}{st:ca}(b:lw s st)(q:aY s st):cj 5000 s st=some (.inr (st.az.aq,st.aj,(st.ae.map λa=>(a.aW,a)),true,s.ai,s.aH,s.aq,s.aR,s.am.kF,s.am.cT,s.am.fC,s.am.bL,s.bS,s.Mode,s.aj,s.jG,s.aI,s.bo,s.dg,s.In,s.Out,s.bT,st.aX,st.Next,st.dE,st.aB,st.kH,st.az.ai,s.aj,aV s.ai st.ae)):=by obtain ⟨r,d,h⟩:=Gg b;have e:=h.2 q;subst e;unfold cj;rw[of_ok b q,aw];dsimp only;rw[d,aw,if_neg (by simp),shown b q,aw,Pc b,aw]
theorem Um{s:bm}{st:ca}(a:lw s st)(q:¬aY s st):cj 5000 s st=some (.inl true):=by
 obtain ⟨r,b,h⟩:=Gg a;have:r=false:=by simp_all
 grind [Go.Abs.cj,of_no]
theorem mj{s:bm}(hs:lX s) :
  zaM 5000 s.ai s.aH s.aq s.aR s.am.kF s.am.cT s.am.fC s.am.bL s.bS s.Mode s.aj s.jG s.aI s.bo s.dg s.In s.Out s.bT=some s:=by
 unfold zaM;rw[show zcT 5000 _=some s from HM hs];rfl
theorem vB{l:List Int}{n:Int}(h:mn l n):(l.length:Int)<=n\/l=[]:=by
 have a:∀i,i<l.length->(i:Int)<=l[i]!:=by
  intro i;induction i with
  |zero=>
   intro hi;have:=(h 0 hi).1
   grind [Kb]
  |succ i ih=>
   intro hi;have b:=ih (by omega);have d:=(h (i+1) hi).1
   grind [pR]
 cases hl:l.length with
 |zero=>simp_all
 |succ m=>
  left;have b:=a m (by omega);have d:=(h m (by omega)).2
  grind
theorem jY{s:bm}(k:br s):lX s:={
 nodes:=by have:=k.nodes.hi;omega
 parts:=by have:=k.parts.hi;omega
 iq:=by have:=k.iq.hi;omega
 part:=λp a=>by
  have b:=vB (k.parts.ok p a).2;have:=k.nodes.hi
  grind
 queue:=λq hq=>by
  have b:=vB (k.iq.ok q hq).Aa;have:=k.Aa
  grind }
theorem m_{l:List dj}{n:Int}(h:ba l n)(hn:0<=n):(l.length:Int)<=n:=by
 rcases vB h.node with a | a
 ·simp_all
 simp_all
theorem ZG{s:bm}{st:ca}(q:aY s st):lw s st:={
 spec:=jY q.spec
 bq:=by have:=q.bq.len;have:=q.spec.bq;omega
 after:=λj b=>by have:=(q.bq.each j b).ok.mO;omega
 cn:=by have h:=(nZ q.cn q.spec.nodes.ok).1;have d:=HE List.length h;simp only[wX] at d;have f:(st.aj.filter sM).length<=st.aj.length:=yCg _ _;have:=q.bq.len;have:=q.spec.bq;omega
 cM:=by have:=q.jh.cM.len;omega
 use:=by have:=q.use.len;have:=q.spec.Aa;omega
 stamps:=by have:=q.use.qlen;have:=q.spec.iq.hi;omega
 shares:=λa e=>by obtain ⟨j,b,P⟩:=q.cn.mem a e;have g:=m_ P.kJ.shares (by omega);have:=q.spec.nodes.hi;omega }
theorem Ui{u:D_}{k t a:Int}(h:a<=t)(b:¬(a<u.bO/\u.bO<=t))(d:¬(a<u.To/\u.To<=t)):jR u k t=jR u k a:=by
 unfold jR
 grind
theorem HQ{L:List D_}{k t a:Int}(h:∀u∈L,jR u k t=jR u k a):bj L k t=bj L k a:=by
 unfold bj;have:∀(M:List D_)(r:aD),(∀u∈M,jR u k t=jR u k a)->M.foldl (λr u=>sI r (jR u k t)) r=M.foldl (λr u=>sI r (jR u k a)) r:=by
  intro M;induction M with
  |nil=>simp_all
  |cons u M ih=>simp_all
 simp_all
theorem Bu{q:jt}{k t a:Int}(f:q.aX<=a)(h:a<=t)(d:∀x,q.aX<=x->timeV q x->¬(a<x/\x<=t)):bH q k t=bH q k a:=by
 have i:bj q.L k t=bj q.L k a:=HQ λu e=>Ui h (λg=>d u.bO (by omega) (.inr (.inl ⟨u,e,.inl rfl⟩)) g) λg=>d u.To (by omega) (.inr (.inl ⟨u,e,.inr rfl⟩)) g;have j:Dq q.aB k t↔Dq q.aB k a:=by
  constructor
  ·rintro ⟨b,hb,h1,h2,h3⟩;refine ⟨b,hb,h1,?_,by omega⟩;rcases yC4 a b.bO with g | g
   ·exact absurd ⟨g,h2⟩ (d b.bO (by omega) (.inr (.inr ⟨b,hb,.inl rfl⟩)))
   omega
  ·rintro ⟨b,hb,h1,h2,h3⟩;refine ⟨b,hb,h1,by omega,?_⟩;rcases yC4 t b.To with g | g
   ·exact g
   ·exact absurd ⟨h3,g⟩ (d b.To (by omega) (.inr (.inr ⟨b,hb,.inr rfl⟩)))
 unfold bH
 grind
theorem Aq(T:List Int){a t:Int}(h:a<=t):∃x,(x=a\/x∈T)/\a<=x/\x<=t/\∀y∈T,y<=t->y<=x:=by
 induction T with
 |nil=>simp_all
 |cons y T ih=>grind
structure FZ (q:jt) (a b:Int) (F:List aD):Prop where
 len:F.length=q.S.ai.length
 low:∀(k:Nat)(h:k<F.length),Qb (λt v=>v=bH q k t) a b F[k]
structure gL (q:jt) (w:AB):Prop where
 part:0<=w.Part/\w.Part<q.S.aH.length
 many:w.aL<=100000
 need:aN w.ay
 ux:w.ay≠bP
 wall:1<=w.aO/\w.aO<=65536
def cA(q:jt)(w:AB):List Int:=(q.S.aH[w.Part.toNat]?).getD []
theorem jZ{q:jt}{w:AB}(h:gL q w):aE q.S.aH w.Part=some (cA q w)/\cA q w∈q.S.aH:=by
 obtain ⟨a,e⟩:=FF h.part.1 h.part.2;have:cA q w=q.S.aH[w.Part.toNat]:=by grind [cA]
 simp_all
def WY(q:jt):Prop:=∀(k t:Int),0<=k->k<q.S.ai.length->q.aX<=t->aN (bH q k t)
theorem Js{V:Int->aD->Prop}{a b:Int}{r:aD}(h:Qb V a b r)(d:∀t v,a<=t->V t v->aN v):aN r:=rB.2 λc=>by
 obtain ⟨t,v,f,g,i,e⟩:=h.cK c
 grind [rB]
theorem zi{F:List aD}{k:Nat}(h:k<F.length):kk F (k:Int)=F[k]:=by grind [kk]
theorem Jl{q:jt}(hq:pK q){w:AB}(b:gL q w){F:List aD}(hl:F.length=q.S.ai.length)(d:∀n∈cA q w,aN (kk F n)):oL F (cA q w):=by obtain ⟨_,a⟩:=jZ b;have e:=hq.spec.parts.ok _ a;have hs:=(jY hq.spec).part _ a;refine ⟨by omega,λn hn=>?_,d⟩;have:=e.2.mem n hn;omega
theorem pf_when{q:jt}(hq:pK q)(O:WY q){w:AB}(b:gL q w){t:Int}(h0:q.aX<=t)(ht:t<=1099511627776) :
  bR (Vb 5000 q w t) λr=>∃F,FZ q t (t+w.aO) F/\r=BY F (cA q w) w.aL w.ay:=by
 have nn:=hq.spec.nodes.hi;have P:=hq.now;have wl:=b.wall;unfold Vb;rw[if_neg (by have:=b.part;simp_all),wr (x:=t+w.aO) (by omega) (by omega)];refine (Nr hq).bind λT A=>?_;have tl:=A.len;refine jj q.S.ai.length (λi x=>x.1=(i:Int)/\x.2.length=i/\∀(k:Nat)(h:k<x.2.length),Qb (λt v=>v=bH q k t) t (t+w.aO) x.2[k]) (λi x f hi a Q=>?_) (λx f a=>?_) ⟨rfl,rfl,λk h=>by simp at h⟩ (by omega)
 ·obtain ⟨y,F⟩:=x;obtain ⟨rfl,d,m⟩:=a;dsimp only at d m ⊢;rw[if_pos (cR hi)];refine (Rj hq hi (by omega)).bind λr e=>?_;rw[e];refine jj T.length (λj x=>∃v:aD,x=((j:Int),v.bA,v.Mem,v.bE,v.bG)/\Fj (bH q i t::((T.take j).filter λy=>decide (t<y/\y<t+w.aO)).map (bH q i)) v) (λj x R p a E=>?_) (λx R a=>?_) ⟨bH q i t,rfl,Fj.one _⟩ (by omega)
  ·obtain ⟨v,rfl,o⟩:=a;simp only[fA];rw[if_pos (cR p)];simp only[bY p,aw];rw[bU (show j<1000000 by omega)];have N:(T.take (j+1)).filter (λy=>decide (t<y/\y<t+w.aO))=(T.take j).filter (λy=>decide (t<y/\y<t+w.aO))++(if t<T[j]/\T[j]<t+w.aO then [T[j]] else []):=by
    rw[Fk p,List.filter_append]
    grind
   have tm:=(A.mem T[j]).1 (bC p);by_cases g:t<T[j]
   ·rw[if_pos (by simp_all)];by_cases S:T[j]<t+w.aO
    ·rw[if_pos (by simp_all)];refine (Rj hq hi (t:=T[j]) (by omega)).bind λs U=>?_;have G:zdI 5000 ({ bA:=v.bA,Mem:=v.Mem,bE:=v.bE,bG:=v.bG }:aD) s.1=some (tA v s.1):=Zd v s.1;rw[G,aw];rw[if_pos ⟨g,S⟩] at N;refine E _ ⟨tA v s.1,rfl,?_⟩;rw[N,yBL,<-JS,U];exact o.add _
    grind
   grind
  ·obtain ⟨v,rfl,o⟩:=a;dsimp only;rw[if_neg (by simp)];rw[xr] at o;have G:cB F ([({ bA:=v.bA,Mem:=v.Mem,bE:=v.bE,bG:=v.bG }:aD)]:List aD)=some (F++[v]):=Bi (by grind);rw[G,aw,bU (show i<1000000 by omega)];have low:Qb (λt v=>v=bH q i t) t (t+w.aO) v:=by
    refine ⟨λu x W h2 e c=>?_,λc=>?_⟩
    ·obtain ⟨z,z1,z2,X,Y⟩:=Aq T W;have Z:bH q i u=bH q i z:=Bu (by omega) X λy K L M=>by
      have:=Y y ((A.mem y).2 ⟨K,L⟩) M.2;omega
     rw[e,Z];refine o.le _ ?_ c
     grind
    ·obtain ⟨x,a,e⟩:=o.cK c
     grind
   grind
 ·obtain ⟨y,F⟩:=x;obtain ⟨rfl,d,m⟩:=a;dsimp only at d m ⊢;obtain ⟨ep,hm⟩:=jZ b;have hP:oL F (cA q w):=Jl hq b d λn hn=>by
   have kp:=(hq.spec.parts.ok _ hm).2.mem n hn;have e:kk F n=F[n.toNat]:=(yb kp.1 (by omega)).2.2;rw[e];exact Js (m n.toNat (by omega)) λu x hu a=>by rw[a];exact O _ u (by omega) (by omega) (by omega)
  rw[if_neg (by simp),ep,aw,WT hP b.need b.ux b.many,aw,bg];exact ⟨F,⟨d,m⟩,rfl⟩
structure PR (nodes:List (List bM)) (q:jt) (L:Nat):Prop where
 len:nodes.length=q.S.ai.length
 cK:CQ nodes q.aX L
 val:∀(k:Nat)(h:k<nodes.length)(t:Int),q.aX<=t->xO nodes[k] t (bH q k t)
theorem PR.right{i:List (List bM)}{q:jt}{L:Nat}(h:PR i q L):WY q:=λk t s hk o=>by
 have j:k.toNat<i.length:=by grind [PR.len]
 have:=(h.val k.toNat j t o).ok (h.cK.each _ j).1
 grind
theorem PR.iff{i:List (List bM)}{q:jt}{L:Nat}(h:PR i q L){k:Nat}(hk:k<i.length){t:Int}(j:q.aX<=t){v:aD}:xO i[k] t v↔v=bH q k t:=
 ⟨λo=>o.Al (h.cK.each k hk).1 (h.val k hk t j),λe=>by rw[e];exact h.val k hk t j⟩
theorem IJ{b:List (List bM)}{q:jt}{L:Nat}(R:L<=900)(hq:pK q)(j:PR b q L){w:AB}(e:gL q w){t:Int}(S:q.aX<=t)(T:t<=1099511627776) :
  bR (zaF 5000 b w.Part w.aL w.ay w.aO t q.aX q.S.aH) λr=>∃F,F.length=q.S.ai.length/\(∀n∈cA q w,Qb (λu v=>v=bH q n u) t (t+w.aO) (kk F n))/\r=BY F (cA q w) w.aL w.ay:=by
 have nn:=hq.spec.nodes.hi;have M:=hq.now;have U:=e.wall;obtain ⟨N,E⟩:=jZ e;have s:=hq.spec.parts.ok _ E;have pl:=(jY hq.spec).part _ E;have O:=j.right;unfold zaF;rw[if_neg (by have:=e.part;simp_all),wr (x:=t+w.aO) (by omega) (by omega),YC _ (by grind [PR.len]),wh,N,wh];have G:=j.len;refine jj (cA q w).length (λi x=>x.1=(i:Int)/\x.2.length=b.length/\∀n∈(cA q w).take i,Qb (λu v=>v=bH q n u) t (t+w.aO) (kk x.2 n)) (λi x f hi m z=>?_) (λx f m=>?_) ⟨rfl,by simp,λn h=>by simp at h⟩ (by omega)
 ·obtain ⟨y,F⟩:=x;obtain ⟨rfl,p,o⟩:=m;dsimp only at p o ⊢;have hn:=s.2.mem _ (bC hi);obtain ⟨k,P⟩:∃k:Nat,(cA q w)[i]=(k:Int):=⟨((cA q w)[i]).toNat,by omega⟩;have hk:k<b.length:=by omega
  obtain ⟨K,lk⟩:=j.cK.each k hk;have f0:=j.cK.first k hk K.ne;rw[if_pos (cR hi),bY hi,aw,P,bY hk,aw];refine (Mm (by omega) K (a:=t) (by omega) (show t<t+w.aO by omega)).bind λr A=>?_;rw[bY (show k<F.length by omega),aw,bU (show i<1000000 by omega),yCl];refine z _ ⟨rfl,by simp[p],λn d=>?_⟩;have low:Qb (λu v=>v=bH q k u) t (t+w.aO) r:=A.iff λu v Q=>j.iff hk (by omega);dsimp only;by_cases g:n=(k:Int)
  ·grind [zi]
  ·have:kk (F.set k r) n=kk F n\/n<0:=by
    grind [kk]
   rw[Fk hi,ld,zK] at d;rcases d with d | d
   ·have nb:=s.2.mem n (Ky d)
    grind
   omega
 ·obtain ⟨y,F⟩:=x;obtain ⟨rfl,p,o⟩:=m;dsimp only at p o ⊢;rw[xr] at o;have hP:oL F (cA q w):=Jl hq e (by omega) λn hn=>by
   have nb:=s.2.mem n hn;exact Js (o n hn) λu x Q m=>by rw[m];exact O n u (by omega) (by omega) (by omega)
  rw[if_neg (by simp),aw,Xh hP e.need e.ux e.many,aw,bg]
  grind
theorem CB{a:List (List bM)}{q:jt}{L:Nat}(s:L<=900)(hq:pK q)(g:PR a q L){w:AB}(d:gL q w){t:Int}(h:q.aX<=t)(i:t<=1099511627776) :
  ∃F,FZ q t (t+w.aO) F/\oL F (cA q w)/\zaF 5000 a w.Part w.aL w.ay w.aO t q.aX q.S.aH=some (BY F (cA q w) w.aL w.ay)/\Vb 5000 q w t=some (BY F (cA q w) w.aL w.ay):=by
 have j:=g.right;have v:=hq.now;obtain ⟨r,e,F,f,rfl⟩:=pf_when hq j d h i;obtain ⟨K,k,G,M,b,rfl⟩:=IJ s hq g d h i;obtain ⟨N,y⟩:=jZ d;have m:=hq.spec.parts.ok _ y;have o:∀n∈cA q w,kk G n=kk F n:=λn hn=>by have nb:=m.2.mem n hn;obtain ⟨z,_,A⟩:=yb (F:=F) nb.1 (by grind [FZ.len]);have p:=f.low n.toNat z;rw[yCr nb.1] at p;rw[A];exact (b n hn).Al p
 rw[IM o] at k;refine ⟨F,f,Jl hq d f.len λn hn=>?_,k,e⟩;have nb:=m.2.mem n hn;rw[<-o n hn];exact Js (b n hn) λu x O E=>by rw[E];exact j n u (by omega) (by omega) (by omega)
end Go.Plain
end
