/- Lemmas. -/
import Derived.Test.YtcndmfkgdaipaaaGreatLawA
set_option linter.all false
open Go.IntKind (i64 u64)
section
namespace Go.Plain
open Go.Abs
def Zh{α:Type}(z:α){n:Nat}(h:n<=1000000):Dl z (n:Int) (n:Int)=some (List.replicate n z):=by
 unfold Dl
 grind
def Uv(v:aF)(need:aF):fD v (mulR 0 need)=v:=Oy λc=>by rw[Co,A_];omega
def Ht(v a b:aF):fD (fD v a) b=fD v (BA a b):=Oy λc=>by simp only[Co,vU];omega
def OM.none{l:List bS}(hs:dN l)(a b:Int)(need:aF):OM l a b (mulR 0 need) l:=
 ⟨hs,by omega,λ_ _=>rfl,λt v h=>by rw[Uv,ite_self];exact h⟩
structure Di (nodes:List (List bS)) (now:Int) (L:Nat):Prop where
 each:∀k (h:k<nodes.length),dN nodes[k]/\nodes[k].length<=L
 first:∀k (h:k<nodes.length) (h':0<nodes[k].length),nodes[k][0].At=now
theorem zL{l:List dk}{n:Int}(h:∀y∈l,y.Node≠n):dM l n=0:=by
 induction l with
 |nil=>simp[dM]
 |cons y l ih=>
  have a:=ih λz hz=>h z (o_ _ hz);simp only[dM,rS,List.sum_cons] at a ⊢
  simp_all
theorem BJ{l:List dk}{n:Int}(h:bo l n){i j:Nat}(a:i<j)(b:j<l.length):l[i].Node<l[j].Node:=by
 induction j with
 |zero=>omega
 |succ j ih=>
  have s:=(h (j+1) b).up
  grind [qJ]
theorem Kl{l:List dk}{n:Int}(h:bo l n){i:Nat}(hi:i<l.length):dM l l[i].Node=l[i].aL:=by
 have e:=SL (l:=l.take (i+1)) (m:=l.drop (i+1)) l[i].Node;have d:dM (l.take i) l[i].Node=0:=zL λy a=>by obtain ⟨j,b,rfl⟩:=OA.1 a;rw[BZ] at b;rw[Rk];have:=BJ h (show j<i by omega) hi;omega
 have f:dM (l.drop (i+1)) l[i].Node=0:=zL λy a=>by obtain ⟨j,b,rfl⟩:=OA.1 a;rw[yCb] at b;rw[yCn];have:=BJ h (show i<i+1+j by omega) (by omega);omega
 rw[JN,mY hi,d,f,if_pos rfl] at e;omega
def Pc{l:List dk}{n:Int}(h:bo l n){i:Nat}(hi:i<l.length):dM (l.take i) l[i].Node=0:=zL λy a=>by obtain ⟨j,b,rfl⟩:=OA.1 a;rw[BZ] at b;rw[Rk];have:=BJ h (show j<i by omega) hi;omega
def Cm{d:List (List bS)}{now:Int}{L:Nat}(Z:L<=900)(u:Di d now L)(hn:d.length<=40){a b:Int}{l:List dk}{need:aF}(hl:bo l d.length)(R:l.length<=300)(E:aN need)
  (h0:now<=a) (g:a<b) (hb:b<=281474976710656) (m:∀k (h:k<d.length) t v,a<=t->t<b->yL d[k] t v->xK (mulR (dM l k) need) v) :
  bQ (zbg 5000 d a b l need) λr=>r.2=0/\r.1.length=d.length/\∀k (h:k<d.length) (G:k<r.1.length),OM d[k] a b (mulR (dM l k) need) r.1[k]:=by
 unfold zbg;rw[Zh _ (by omega),aw];have node:∀i (hi:i<l.length),∃k:Nat,l[i].Node=(k:Int)/\k<d.length:=λi hi=>by obtain ⟨K,S,_⟩:=hl.mem _ (bA hi);exact ⟨l[i].Node.toNat,by omega,by omega⟩
 refine iL l.length (λi x=>∃T:List (List bS),x=((i:Int),T)/\T.length=l.length/\∀j (hj:j<l.length) (N:j<T.length) (k:Nat) (hk:k<d.length),j<i->l[j].Node=(k:Int)->OM d[k] a b (mulR l[j].aL need) T[j]) (λi x f hi e O=>?_) (λx f e=>?_)
  ⟨_,rfl,List.length_replicate ..,λj _ _ _ _ h=>by omega⟩ (by omega)
 ·obtain ⟨T,rfl,N,U⟩:=e;obtain ⟨k,n,hk⟩:=node i hi;have sh:=hl.mem _ (bA hi);dsimp only;rw[if_pos (cS hi),bY hi,aw];have w:dM l k=l[i].aL:=by grind [Kl]
  have fk:=m k hk;rw[w] at fk;obtain ⟨s,lk⟩:=u.each k hk;have f0:=u.first k hk s.ne;have P:aN (mulR l[i].aL need):=by obtain ⟨v,o⟩:=yL.ex s (t:=a) (by omega);have:=fk a v (MG _) g o;refine v_.2 λc=>?_;have K:=this c;have S:=v_.1 (o.ok s) c;have W:=v_.1 E c;rw[A_] at K ⊢;have:=yBT (show 0<=l[i].aL by omega) W.1;omega
  refine (Ny E ⟨sh.2.2.1,sh.2.2.2⟩).bind λr p=>?_;have z:=p.1.2 P;rw[if_neg (by simp[z]),p.2 z,n,bY hk,yA];refine (xO (by omega) s P (by omega) g hb fk).bind λr2 X=>?_;rw[bY (show i<T.length by omega),aw,if_neg (by simp_all),bV (show i<1000000 by omega),yCo]
  grind
 ·obtain ⟨T,rfl,N,U⟩:=e;dsimp only;rw[if_neg (by simp)];refine iL l.length (λi x=>∃M:List (List bS),x=((i:Int),M)/\M.length=d.length/\∀k (h:k<d.length) (G:k<M.length),OM d[k] a b (mulR (dM (l.take i) k) need) M[k]/\(dM (l.take i) k=0->M[k]=d[k])) (λi x f hi e O=>?_) (λx f e=>?_)
   ⟨_,rfl,rfl,λk h _=>⟨by simpa[dM] using OM.none (u.each k h).1 a b need,λ_=>rfl⟩⟩ (by omega)
  ·obtain ⟨M,rfl,Q,σ⟩:=e;obtain ⟨k,n,hk⟩:=node i hi;dsimp only;rw[if_pos (cS hi),bY hi,aw,bY (show i<T.length by omega),aw,n,bY (show k<M.length by omega),aw,bV (show i<1000000 by omega),yCo];refine O _ ⟨_,rfl,by simp[Q],λy h G=>?_⟩;have hb:=Pc hl hi;rw[n] at hb;by_cases q:k=y
   ·subst q;have A:(M.set k T[i])[k]=T[i]:=yBE _;rw[mY hi,hb,if_pos n,Int.zero_add,A];have sh:=hl.mem _ (bA hi)
    grind
   ·have A:(M.set k T[i])[y]=M[y]'(by omega):=yBO q _;rw[mY hi,if_neg (by omega),Int.add_zero,A]
    simp_all
  ·obtain ⟨M,rfl,Q,σ⟩:=e;dsimp only;rw[if_neg (by simp),aY]
   simp_all
def jj(F:List aF)(n:Int):aF:=(F[n.toNat]?).getD bK
def cO(F:List aF)(l:List Int)(need:aF):Int:=(l.map λn=>dK (jj F n) need).sum
def Hv(left c:Int):Int:=if left<c then left else c
def plS(F:List aF)(need:aF)(x:Int×List dk)(n:Int):Int×List dk:=
 if Hv x.1 (dK (jj F n) need)=0 then x else (x.1-Hv x.1 (dK (jj F n) need),x.2++[{ Node:=n,aL:=Hv x.1 (dK (jj F n) need) }])
def rR(F:List aF)(need:aF)(l:List Int)(many:Int):Int×List dk:=l.foldl (plS F need) (many,[])
def BW(F:List aF)(l:List Int)(many:Int)(need:aF):List dk×Bool:=if many<1\/cO F l need<many then ([],false) else ((rR F need l many).2,true)
def uI{F:List aF}{n:Int}(b:0<=n)(h:n<F.length):∃a:n.toNat<F.length,aD F n=some (jj F n)/\jj F n=F[n.toNat]'a:=by grind [AV,jj]
structure po (F:List aF) (l:List Int):Prop where
 xR:l.length<=300
 node:∀n∈l,0<=n/\n<F.length
 Yx:∀n∈l,aN (jj F n)
section
variable{F:List aF}{l:List Int}{need:aF}(hP:po F l)(hn:aN need)(hz:need≠bK)
include hP hn
theorem nR{n:Int}(h:n∈l):0<=dK (jj F n) need/\dK (jj F n) need<=64:=Pb (hP.Yx n h) hn
theorem WX:0<=cO F l need/\cO F l need<=64 * l.length:=by
 have:∀(m:List Int),(∀x∈m,x∈l)->0<=cO F m need/\cO F m need<=64 * m.length:=by
  intro m;induction m with
  |nil=>grind [cO]
  |cons x m ih=>
   intro h;have b:=ih λy a=>h y (o_ _ a);have:=nR hP hn (h x (qY ..))
   grind [cO]
 simp_all
include hz
theorem fit_ok{n:Int}(h:n∈l):pO 5000 F n need=some (dK (jj F n) need):=by have hb:=hP.node n h;obtain ⟨_,e,_⟩:=uI hb.1 hb.2;unfold pO;rw[if_neg (by simp_all),e,aw,count (hP.Yx n h) hn hz,aw]
theorem yb{i:Nat}(hi:i<l.length):cO F (l.take (i+1)) need=cO F (l.take i) need+dK (jj F l[i]) need:=by grind [List.take_succ_eq_append_getElem,cO]
theorem yy{i:Nat}:0<=cO F (l.take i) need/\cO F (l.take i) need<=64 * 300:=by
 have h:=WX (F:=F) (l:=l.take i) (need:=need) ⟨by grind [po.xR],λn h=>hP.node n (Mx h),λn h=>hP.Yx n (Mx h)⟩ hn
 grind [po.xR]
theorem WH:qO 5000 F l need=some (cO F l need):=by
 have hl:=hP.xR;unfold qO;refine bQ.eq (iL l.length (λi x=>x=(cO F (l.take i) need,(i:Int))) (λi x f hi a d=>?_) (λx f a=>?_) (by simp[cO]) (by omega))
 ·subst a;have c:=nR hP hn (bA hi);have b:=yy hP hn hz (i:=i);dsimp only;rw[if_pos (cS hi),bY hi,aw,fit_ok hP hn hz (bA hi),aw,bV (show i<1000000 by omega),wr (by omega) (by omega)]
  grind [yb]
 ·subst a;dsimp only;rw[if_neg (by simp),aY,xB]
theorem pf_room:iw 5000 F l need=some (cO F l need):=by
 have hl:=hP.xR;unfold iw;refine bQ.eq (iL l.length (λi x=>x=(cO F (l.take i) need,(i:Int))) (λi x f hi a d=>?_) (λx f a=>?_) (by simp[cO]) (by omega))
 ·subst a;have c:=nR hP hn (bA hi);have b:=yy hP hn hz (i:=i);have hb:=hP.node _ (bA hi);obtain ⟨_,e,_⟩:=uI hb.1 hb.2;simp only[eE];rw[if_pos (cS hi)];simp only[bY hi,aw];rw[if_pos (by simp_all),if_pos (by simp_all),e,aw,BH (hP.Yx _ (bA hi)) hn hz,aw,bV (show i<1000000 by omega),wr (by omega) (by omega)]
  grind [yb]
 ·subst a;dsimp only;rw[if_neg (by simp),aY,xB]
theorem tW{i:Nat}(hi:i<l.length)(many:Int):rR F need (l.take (i+1)) many=plS F need (rR F need (l.take i) many) l[i]:=by grind [rR,List.take_succ_eq_append_getElem]
theorem RD{many:Int}(hm:1<=many/\many<=100000)(i:Nat):(0<=(rR F need (l.take i) many).1/\(rR F need (l.take i) many).1<=many)/\(rR F need (l.take i) many).2.length<=i:=by
 induction i with
 |zero=>grind [rR]
 |succ i ih=>
  by_cases hi:i<l.length
  ·have c:=nR hP hn (bA hi);rw[tW hP hn hz hi];unfold plS;by_cases q:Hv (rR F need (l.take i) many).1 (dK (jj F l[i]) need)=0
   ·grind
   ·rw[if_neg q]
    grind [Hv]
  grind [List.take_of_length_le]
theorem Lx{many:Int}(i:Nat)(h:(rR F need (l.take i) many).1=0):(rR F need l many).2=(rR F need (l.take i) many).2:=by
 have:∀n,rR F need (l.take (i+n)) many=rR F need (l.take i) many:=by
  intro n;induction n with
  |zero=>rfl
  |succ n ih=>
   by_cases hi:i+n<l.length
   ·have c:=nR hP hn (bA hi);rw[<-yC8,tW hP hn hz hi,ih];unfold plS Hv
    grind
   grind [List.take_of_length_le]
 have:=this l.length
 grind [List.take_of_length_le]
theorem place_ok{many:Int}(hm:many<=100000):zet 5000 F l many need=some (BW F l many need):=by
 have hl:=hP.xR;unfold zet BW;simp only[eE];by_cases g:many<1
 ·simp_all
 rw[if_neg (by simp_all),WH hP hn hz,aw];by_cases j:cO F l need<many
 ·simp_all
 rw[if_neg (by simp_all),if_neg (by omega)];refine bQ.eq (iL l.length (λi x=>x=((rR F need (l.take i) many).1,(i:Int),(rR F need (l.take i) many).2)) (λi x f hi a b=>?_) (λx f a=>?_) (by simp[rR]) (by omega))
 ·subst a;have c:=nR hP hn (bA hi);have d:=RD hP hn hz (many:=many) ⟨by omega,hm⟩ i;have st:=tW hP hn hz hi many;dsimp only;rw[if_pos (cS hi),bY hi,aw,fit_ok hP hn hz (bA hi),aw,bq];refine ⟨λh=>?_,λh=>?_⟩
  ·grind [aY,Lx]
  ·rw[bV (show i<1000000 by omega)];unfold plS at st;rw[bq];refine ⟨λh=>?_,λh=>?_⟩
   ·rw[if_pos (show Hv _ _=0 by grind [Hv])] at st
    simp_all
   ·rw[if_neg (show ¬Hv _ _=0 by grind [Hv])] at st;rw[ze (by grind),aw];have e:i64.wrap ((rR F need (l.take i) many).1-(if (rR F need (l.take i) many).1<dK (jj F l[i]) need then (rR F need (l.take i) many).1 else dK (jj F l[i]) need))=(rR F need (l.take i) many).1-Hv (rR F need (l.take i) many).1 (dK (jj F l[i]) need):=by
     grind [Hv,wr]
    rw[e];exact b _ (by rw[st];rfl)
 ·subst a;dsimp only;rw[if_neg (by simp),aY,xB]
theorem WU{many:Int}(hm:many<=100000):zdh 5000 F l many need=some (BW F l many need):=by
 have hl:=hP.xR;unfold zdh BW;simp only[eE];by_cases j:many<1
 ·simp_all
 rw[if_neg (by simp_all),pf_room hP hn hz,aw];by_cases k:cO F l need<many
 ·simp_all
 rw[if_neg (by simp_all),if_neg (by omega)];refine bQ.eq (iL l.length (λi x=>x=((rR F need (l.take i) many).1,(i:Int),(rR F need (l.take i) many).2)) (λi x f hi b m=>?_) (λx f b=>?_) (by simp[rR]) (by omega))
 ·subst b;have c:=nR hP hn (bA hi);have d:=RD hP hn hz (many:=many) ⟨by omega,hm⟩ i;have st:=tW hP hn hz hi many;have hb:=hP.node _ (bA hi);obtain ⟨_,e,_⟩:=uI hb.1 hb.2;dsimp only;rw[bq];refine ⟨λh=>?_,λh=>?_⟩
  ·simp only[bG,bz] at h;rw[bY hi,aw,if_neg (by simp_all),aw,if_neg (by simp_all),aw,e,aw,BH (hP.Yx _ (bA hi)) hn hz,aw,bV (show i<1000000 by omega)];unfold plS Hv at st;rw[bq];refine ⟨λa=>?_,λa=>?_⟩
   ·simp only[bz] at a;rw[if_pos (show (rR F need (l.take i) many).1<dK (jj F l[i]) need from a),if_neg (by omega)] at st;rw[if_pos (by simp_all),aw,ze (by grind),aw,wr (x:=_-_) (by omega) (by omega)]
    simp_all
   ·simp only[bz] at a;rw[if_neg (show ¬(rR F need (l.take i) many).1<dK (jj F l[i]) need from a)] at st;rw[wr (x:=_-_) (by omega) (by omega)];by_cases g:dK (jj F l[i]) need=0
    ·simp_all
    ·rw[if_neg g] at st;rw[if_pos (by grind),aw,ze (by grind),aw]
     simp_all
  ·rw[aY,Lx hP hn hz i]
   grind
 ·subst b;dsimp only;rw[if_neg (by simp),aY,xB]
end
def Kd{F G:List aF}{l:List Int}(h:∀n∈l,jj F n=jj G n)(many:Int)(need:aF):BW F l many need=BW G l many need:=by
 have a:cO F l need=cO G l need:=by grind [cO,List.map_congr_left]
 have b:∀(m:List Int)(x:Int×List dk),(∀n∈m,n∈l)->m.foldl (plS F need) x=m.foldl (plS G need) x:=by
  intro m;induction m with
  |nil=>simp_all
  |cons n m ih=>grind [plS]
 grind [BW,rR]
def Tz{a b need:aF}(k:aN a)(hb:aN b)(hn:aN need)(h:xK a b):dK a need<=dK b need:=by
 have f:=vF k hn;have m:=vF hb hn;rcases yC6 (dK b need) (dK a need) with q | q
 ·obtain ⟨p,g,d⟩:=m.max (by have:=f.hi;omega);have e:∀(x y:Int×Int),x.2=y.2->x.1<=y.1->0<=y.2->x∈FE a need->y.1<(dK b need+1) * y.2->False:=λx y r s n o d=>by
   have:=f.fit x o;have t:(dK b need+1) * y.2<=dK a need * y.2:=yAY (by omega) n
   grind
  have f0:=h 0;have f1:=h 1;have i:=h 2;have j:=h 3;simp only[cmp] at f0 f1 i j;have:=hn.FL;have:=hn.mem;have:=hn.KD;have:=hn.KP;simp only[FE,gy,LL,Nj] at g;rcases g with rfl | rfl | rfl | rfl
  ·exact (e (a.bI,need.bI) (b.bI,need.bI) rfl f0 (by omega) (by simp[FE]) d).elim
  ·exact (e (a.Mem,need.Mem) (b.Mem,need.Mem) rfl f1 (by omega) (by simp[FE]) d).elim
  ·exact (e (a.bM,need.bM) (b.bM,need.bM) rfl i (by omega) (by simp[FE]) d).elim
  ·exact (e (a.bR,need.bR) (b.bR,need.bR) rfl j (by omega) (by simp[FE]) d).elim
 omega
def Qs{F G:List aF}{l:List Int}{need:aF}(d:po F l)(e:po G l)(hn:aN need)(h:∀n∈l,xK (jj F n) (jj G n)):cO F l need<=cO G l need:=by
 have:∀(m:List Int),(∀x∈m,x∈l)->cO F m need<=cO G m need:=by
  intro m;induction m with
  |nil=>grind [cO]
  |cons x m ih=>
   intro b;have g:=ih λy f=>b y (o_ _ f);have a:=b x (qY ..);have:=Tz (d.Yx x a) (e.Yx x a) hn (h x a)
   grind [cO]
 simp_all
def vG{F:List aF}{l:List Int}{many:Int}{need:aF}:(BW F l many need).2=true↔1<=many/\many<=cO F l need:=by grind [BW]
def tj(j:aJ):Bool:=(j.State == 3) || (j.State == 4)
def hasJ_lt{j:aJ}(h:tj j=true):j.State<5:=by simp only[tj,gE,lA] at h;omega
structure fj (s:aX) (st:bZ) (j:aJ) (a:bW):Prop where
 Fx:a.bj=j.Id
 need:a.ay=j.ay
 kM:jz s j a.aj
 now:st.aO<j.Start+j.aR
def kT(F:List aF)(a:bW):List aF:=F.mapIdx (qw a)
theorem zeM{F:List aF}{a:bW}:(kT F a).length=F.length:=by simp[kT]
def np{F:List aF}{a:bW}{i:Nat}(h:i<(kT F a).length):(kT F a)[i]=qw a i (F[i]'(by grind [zeM])):=by simp[kT]
theorem rH.eq{F G:List aF}{a:bW}(h:rH F a G):G=kT F a:=
 yCc (by rw[h.len,zeM]) λi j o=>by rw[h.cN i j,np o]
theorem vr{F:List aF}{a:bW}(h:uJ F a):∀r∈kT F a,aN r:=λr b=>by obtain ⟨i,hi,rfl⟩:=iM b;rw[np hi];exact h i _
def eS(s:aX)(st:bZ):List aJ->List bW->List aF->Prop
 |[],A,_=>A=[]
 |j::H,A,F=>∃a b,A=a::b/\fj s st j a/\uJ F a/\eS s st H b (kT F a)
def ig(s:aX)(st:bZ):Prop:=eS s st (st.ah.filter tj) st.ai s.am
theorem eS.mem{s:aX}{st:bZ}{H:List aJ}{A:List bW}{F:List aF}(h:eS s st H A F):∀a∈A,∃j∈H,fj s st j a:=by
 induction H generalizing A F with
 |nil=>intro a i;rw[show A=[] from h] at i;cases i
 |cons j H ih=>
  obtain ⟨b,o,rfl,u,x,z⟩:=h
  grind
theorem ig.mem{s:aX}{st:bZ}(h:ig s st):∀a∈st.ai,∃j∈st.ah,fj s st j a:=λa i=>by
 obtain ⟨j,o,u⟩:=eS.mem h a i
 grind
theorem UJ{α:Type}{M:List (Int×α)}{k:Int}{a:α}{b:Int}:dm (kA M k a) b=if k=b then some a else dm M b:=by
 induction M with
 |nil=>simp[kA,dm]
 |cons p M ih=>
  obtain ⟨q,v⟩:=p;simp only[kA];split
  ·grind [Go.Abs.dm]
  ·rename_i e;simp only[dm,ih]
   grind
theorem Bo{s:aX}(hs:iE s)(k:ba s):PF 5000 s=some true:=by obtain ⟨r,e,h⟩:=lY s hs;rw[e,h.2 k]
theorem Hs{l:List aF}(h:l.length<=1000000):za6 5000 l=some l:=by simp only[za6,Eh h]
def Fb{s:aX}(hs:iE s)(k:ba s):zcM 5000 s=some (.inr ([],s.am)):=by have:=hs.nodes;simp only[zcM,Bo hs k,aw,Ot,b_,cw,Hs (show s.am.length<=1000000 by omega)]
def Tq{l:List dk}(h:1<=ky l):l≠[]:=λe=>by grind [ky]
structure AInv (s:aX) (st:bZ) (i:Nat) (x:(List bW)×Int×(List aF)×List (Int×bW)):Prop where
 ix:x.2.1=(i:Int)
 iff:ig s st↔eS s st ((st.ah.drop i).filter tj) x.1 x.2.2.1
 len:x.2.2.1.length=s.am.length
 Yx:∀r∈x.2.2.1,aN r
 keys:∀q,dm x.2.2.2 q≠none->∃m,∃h:m<st.ah.length,m<i/\st.ah[m].Id=q
 sub:∀a∈x.1,a∈st.ai
 xR:x.1.length<=300
def DY{s:aX}(k:ba s){st:bZ}(z:kF s st)(J:dz s st):fe (zer 5000 s st) (ig s st):=by
 have hl:=z.bm;have hn:=z.spec.nodes;unfold zer;rw[Fb z.spec k,aw];dsimp only;refine iL st.ah.length (AInv s st) (λi x f hi Q hr=>?_) (λx f Q=>?_) ⟨rfl,by simp[ig],rfl,k.nodes.ok,λq h=>absurd rfl h,λa R=>R,z.cr⟩ (by omega)
 ·obtain ⟨o,x1,F,M⟩:=x;obtain ⟨p,d,t,n,g,j,u⟩:=Q;dsimp only at p d t n g j u;subst p;rw[yB9 hi] at d;have ji:=J.each _ (bA hi);have N:=ji.ok;have up:∀q,(∃m,∃h:m<st.ah.length,m<i/\st.ah[m].Id=q)->∃m,∃h:m<st.ah.length,m<i+1/\st.ah[m].Id=q:=λq ⟨m,h,U,A⟩=>⟨m,h,by omega,A⟩;simp only[eE,Pm,cS hi,if_true,bY hi,aw,bV (show i<1000000 by omega)];rw[bq];refine ⟨λh=>hr _ ⟨rfl,?_,t,n,λq hq=>up q (g q hq),j,u⟩,λh=>?_⟩
  ·have e:tj st.ah[i]=false:=by grind [tj]
   grind
  ·have e:tj st.ah[i]=true:=by simpa only[tj,hZ,nI] using h
   rw[List.filter_cons_of_pos e] at d;have ab:=N.start;have ad:=N.wall;rw[wr (x:=st.ah[i].Start+st.ah[i].aR) (by omega) (by omega),bq];refine ⟨λU=>cY λq=>?_,λU=>?_⟩
   ·obtain ⟨a,E,rfl,G,-⟩:=d.1 q;have:=G.now
    grind
   ·simp only[gE,bz,lA,not_or] at U;cases o with
    |nil=>grind
    |cons a E=>
     have R:=j a (qY ..);have K:=z.shares a R;have W:aD (a::E) 0=some a:=by unfold aD;simp_all
     have sl:slice? (a::E) 1 ((a::E).length:Int)=some E:=by unfold slice?;rw[if_pos ⟨by omega,by omega,by omega⟩];simp
     simp only[W,sl,aw];rw[bq];refine ⟨λA=>?_,λA=>?_⟩
     ·refine cY λq=>?_;obtain ⟨X,y,σ,G,-⟩:=d.1 q
      grind [fj.Fx,gZ,fj.need]
     ·simp only[gE,HU,ne_eq,not_or,Un,hZ,nI] at A;have eN:a.ay=st.ah[i].ay:=gZ.1 A.2;refine (Mu z.spec k st.ah[i] a.aj (jk K (by decide))).bind λr Z=>?_;rw[bq];refine ⟨λh3=>?_,λh3=>?_⟩
      ·refine cY λq=>?_;obtain ⟨X,y,σ,G,-⟩:=d.1 q
       grind [fj.kM]
      ·simp only[hZ,nI] at h3;have S:=Z.1 h3;have P:fj s st st.ah[i] a:=⟨A.1,eN,S,by omega⟩;have T:uJ F a->ut M F a:=λhf=>⟨by have:=N.id;omega,Tq (by have:=N.many;have:=S.Us;omega),by grind [jz.shares],by grind [dh.need],by
        cases hm:dm M a.bj with
        |none=>rfl
        |some v=>obtain ⟨m,af,aa,ak⟩:=g a.bj (by simp_all);have:=J.bH.lt aa hi;omega,hf⟩
       refine (Jt (M:=M) (a:=a) (F:=F) (by omega) (jk K (by decide)) n).bind λr2 L=>?_;rw[bq];refine ⟨λO=>cY λq=>?_,λO=>?_⟩
       ·obtain ⟨X,y,σ,G,hf,-⟩:=d.1 q
        simp_all
       ·simp only[HU,ne_eq,Un] at O;have tk:=L.1.1 O;obtain ⟨eM,bh⟩:=L.2 O;have eF:=bh.eq;refine hr _ ⟨rfl,?_,?_,?_,λq hq=>?_,λb hb=>j b (o_ _ hb),?_⟩
        ·rw[d];dsimp only;rw[eF];constructor
         ·rintro ⟨X,y,σ,G,hf,w⟩
          simp_all
         ·intro w;exact ⟨a,E,rfl,P,tk.fits,w⟩
        ·grind [zeM]
        ·grind [vr,ut.fits]
        ·grind [UJ]
        grind
 ·obtain ⟨o,x1,F,M⟩:=x;obtain ⟨p,d,t,n,g,j,u⟩:=Q;dsimp only at p d;subst p;rw[List.drop_length] at d;simp only[eR,b_,cw,aY,lA];rw[d];constructor
  ·intro h;exact ZI (by omega)
  ·intro h;rw[show o=[] from h];rfl
structure OneB (n:Int) (b:kH):Prop where
 id:1<=b.Id/\b.Id<=281474976710656
 node:0<=b.Node/\b.Node<n
 lo:0<=b.bT
 span:b.bT<b.To
 hi:b.To<=1099511627776
structure vi (b:kH) (node p q:Int):Prop where
 node:b.Node=node
 span:b.bT<b.To
 pq:p<q
 l:b.bT<q
 r:p<b.To
structure Q_ (l:List kH) (n:Int) (i:Nat) (b:kH):Prop where
 one:OneB n b
 up:∀x (h:x<l.length),x<i->l[x].Id<b.Id/\¬vi l[x] b.Node b.bT b.To
structure zX (l:List kH) (n:Int):Prop where
 len:l.length<=16
 each:∀i (h:i<l.length),Q_ l n i l[i]
def DH(l:List kH)(node p q:Int)(hl:l.length<=300):fe (fV 5000 l node p q) (∃b∈l,vi b node p q):=by
 simp only[fV];refine xX l (λ_ b=>¬vi b node p q) (λi f hi _ a=>?_) (λf h=>?_) (by omega)
 ·simp only[cS hi,if_true,bY hi,aw,bV (show i<1000000 by omega),bq];have e:decide ((if p > l[i].bT then p else l[i].bT)<(if q<l[i].To then q else l[i].To))=true↔l[i].bT<l[i].To/\p<q/\l[i].bT<q/\p<l[i].To:=by
   grind
  rw[bG,e,lA];exact ⟨λh=>pY ⟨_,bA hi,⟨h.1,h.2.1,h.2.2.1,h.2.2.2.1,h.2.2.2.2⟩⟩,λh=>a λm=>h ⟨m.node,m.span,m.pq,m.l,m.r⟩⟩
 ·simp only[eR,b_,cw];exact cY λ⟨b,hb,d⟩=>De (A:=λb=>¬vi b node p q) h b hb d
def Hj(l:List kH)(node p q:Int)(hl:l.length<=300):fe (zb8 5000 l node p q) (∃b∈l,vi b node p q):=by
 simp only[zb8];refine xX l (λ_ b=>¬vi b node p q) (λi f hi _ a=>?_) (λf h=>?_) (by omega)
 ·simp only[cS hi,if_true,bY hi,aw,bV (show i<1000000 by omega),bq];simp only[bG,bz,lA];exact ⟨λh=>pY ⟨_,bA hi,⟨h.1.1.1.1,h.1.1.1.2,h.1.1.2,h.1.2,h.2⟩⟩,λh=>a λm=>h ⟨⟨⟨⟨m.node,m.span⟩,m.pq⟩,m.l⟩,m.r⟩⟩
 ·simp only[eR,b_,cw];exact cY λ⟨b,hb,d⟩=>De (A:=λb=>¬vi b node p q) h b hb d
def Xl(b:kH)(n:Int):fe (qP 5000 b n) (OneB n b):=by simp only[qP,fe,aY,bG,bz];exact ⟨λh=>⟨by omega,by omega,by omega,by omega,by omega⟩,λh=>by have:=h.id;have:=h.node;have:=h.lo;have:=h.span;have:=h.hi;omega⟩
def ref_one(b:kH)(n:Int):fe (zeV 5000 b n) (OneB n b):=by simp only[zeV,zbn,aw,fe,bq,aY,bG,bz];refine ⟨λa=>⟨λh=>⟨by omega,by omega,by omega,by omega,by omega⟩,λh=>by have:=h.id;have:=h.node;have:=h.lo;have:=h.span;have:=h.hi;omega⟩,λa=>⟨λh=>by simp at h,λh=>by have:=h.id;omega⟩⟩
theorem yp{α:Type}{l:List α}{i:Nat}(h:i<=l.length):slice? l 0 (i:Int)=some (l.take i):=by
 unfold slice?
 simp_all
def Ye{l:List kH}{i:Nat}{P:kH->Prop}:(∃b∈l.take i,P b)↔∃x,∃h:x<l.length,x<i/\P l[x]:=by
 constructor
 ·grind [List.getElem_of_mem]
 ·rintro ⟨x,e,a,hp⟩;have d:x<(l.take i).length:=by grind
  refine ⟨(l.take i)[x],bA d,?_⟩
  simp_all
def EN(l:List kH)(n:Int)(hl:l.length<=300):fe (mg 5000 l n) (zX l n):=by
 unfold mg;rw[fe,bq];refine ⟨λh=>cY λq=>?_,λh=>?_⟩
 ·have:=q.len
  grind
 ·simp only[bz] at h;refine xX l (λi b=>Q_ l n i b) (λi f hi k v=>?_) (λf k=>?_) (by omega)
  ·have w:decide ((i:Int) > 0)=decide (0<i):=by simp
   simp only[eE,cS hi,if_true,bY hi,aw,bV (show i<1000000 by omega),w,yp (yCx hi)];refine (Xl l[i] n).bind λr j=>?_;rw[bq];refine ⟨λo=>cY λq=>?_,λo=>?_⟩
   ·have:=j.2 (q.each i hi).one
    simp_all
   ·simp only[hZ,nI] at o;have O:=j.1 o;have fin:(∀x (h:x<l.length),x<i->l[x].Id<l[i].Id)->bQ ((fV 5000 (l.take i) l[i].Node l[i].bT l[i].To).bind λr=>if r=true then some false else f ((i+1:Nat):Int)) (λb=>b=true↔zX l n):=λp=>by
     refine (DH (l.take i) _ _ _ (by rw[BZ];omega)).bind λr d=>?_;rw[Ye] at d;rw[bq];refine ⟨λe=>cY λq=>?_,λe=>v ⟨O,λx g a=>⟨p x g a,λm=>e (d.2 ⟨x,g,a,m⟩)⟩⟩⟩;obtain ⟨x,g,a,m⟩:=d.1 e;exact ((q.each i hi).up x g a).2 m
    rw[bq];refine ⟨λe=>?_,λe=>?_⟩
    ·simp only[bz] at e;obtain ⟨m,rfl⟩:∃m,i=m+1:=⟨i-1,by omega⟩;have s:m<l.length:=by omega
     rw[wp1 (show m+1<1000000 by omega),bY s,aw,bq];refine ⟨λt=>cY λq=>?_,λt=>fin λx g a=>?_⟩
     ·have:=((q.each (m+1) hi).up m s (by omega)).1
      grind
     ·simp only[bz] at t;rcases VX (yCz.1 a) with u | u
      ·have:=((k m s (by omega)).up x g u).1;omega
      simp_all
    simp_all
  ·simp only[eR,b_,cw];exact pY ⟨by omega,λi hi=>k i hi⟩
def Uk{α:Type}{l:List α}{i:Nat}(h:i<l.length):slice? l (i:Int) ((i+1:Nat):Int)=some [l[i]]:=by
 unfold slice?;rw[if_pos ⟨by omega,by omega,by omega⟩]
 grind [List.take_succ_eq_append_getElem,List.drop_eq_nil_of_le]
def XD(l:List kH)(n:Int)(hl:l.length<=300):fe (zdZ 5000 l n) (zX l n):=by
 unfold zdZ;refine xX l (λi b=>Q_ l n i b) (λi f hi o u=>?_) (λf o=>?_) (by omega)
 ·simp only[eE,cS hi,if_true,bY hi,aw,bV (show i<1000000 by omega)];refine (ref_one l[i] n).bind λr d=>?_;rw[bq];refine ⟨λj=>cY λq=>?_,λj=>?_⟩
  ·have:=d.2 (q.each i hi).one
   simp_all
  ·simp only[hZ,nI] at j;have O:=d.1 j;refine iL i (λx y=>y=(x:Int)/\∀z (h:z<l.length),z<x->l[z].Id<l[i].Id/\¬vi l[z] l[i].Node l[i].bT l[i].To) (λx y g k m v=>?_) (λy g m=>?_) ⟨rfl,λz h A=>by omega⟩ (by omega)
   ·obtain ⟨rfl,p⟩:=m;have a:x<l.length:=by omega
    simp only[cS k,if_true,bY a,aw,bV (show x<1000000 by omega)];rw[bq];refine ⟨λs=>cY λq=>?_,λs=>?_⟩
    ·have:=((q.each i hi).up x a k).1
     grind
    ·simp only[bz] at s;rw[Uk a,aw];refine (Hj [l[x]] _ _ _ (by simp)).bind λr e=>?_;simp only[zV,exists_eq_left] at e;rw[bq];refine ⟨λt=>cY λq=>((q.each i hi).up x a k).2 (e.1 t),λt=>v _ ⟨rfl,λz hz w=>?_⟩⟩
     grind
   ·obtain ⟨rfl,p⟩:=m;simp only[eR,b_,cw];exact u ⟨O,p⟩
 ·simp only[eR,b_,cw,aY,bz];exact ⟨λh=>⟨by omega,λi hi=>o i hi⟩,λq=>by have:=q.len;omega⟩
def SM(st:bZ)(a:bW):Prop:=∀j∈st.ah,j.Id=a.bj->∀x∈a.aj,∀b∈st.aA,b.Node=x.Node->¬b.bT<j.Start+j.aR
structure Ab (s:aX) (st:bZ):Prop where
 cF:zX st.aA s.am.length
 live:∀b∈st.aA,b.Id<st.dr/\st.aO<b.To
 zk:∀a∈st.ai,SM st a
def Ln{s:aX}{st:bZ}(t:kF s st)(J:dz s st)(A:ig s st):fe (gM 5000 s st) (Ab s st):=by
 have hb:=t.cF;have hj:=t.bm;have T:=t.cr;unfold gM;refine (EN st.aA _ (by omega)).bind λr u=>?_;rw[bq];refine ⟨λv=>cY λq=>?_,λv=>?_⟩
 ·grind [Ab.cF]
 ·simp only[hZ,nI] at v;have B:=u.1 v;refine xX st.aA (λi b=>b.Id<st.dr/\st.aO<b.To) (λi f hi _ w=>?_) (λf Q=>?_) (by omega)
  ·simp only[cS hi,if_true,bY hi,aw,bV (show i<1000000 by omega)];rw[bq];simp only[gE,bz];exact ⟨λU=>cY λq=>by have:=q.live _ (bA hi);omega,λU=>w (by omega)⟩
  ·simp only[eR,b_,cw];refine xX st.ai (λi a=>SM st a) (λi f hi _ w=>?_) (λf W=>?_) (by omega)
   ·simp only[cS hi,if_true,bY hi,aw,bV (show i<1000000 by omega)];have z:=bA hi;have X:=t.shares _ z;obtain ⟨j,d,P⟩:=A.mem _ z;have k:=J.each j d;have σ:=k.ok.id;have Z:=k.ok.start;have jw:=k.ok.wall;refine (Tt (by omega) J.bH (id:=st.ai[i].bj) (by have:=P.Fx;omega) J.ids).bind λr2 n=>?_;rw[n.1.2 ⟨j,d,P.Fx.symm⟩,if_neg (by simp)];have h:=n.2 (n.1.2 ⟨j,d,P.Fx.symm⟩);obtain ⟨E,aa⟩:=r2;dsimp only at h ⊢;obtain ⟨G,e⟩:=AV (l:=st.ah) h.lo (by have:=h.lo;have:=h.hi;omega);have ej:st.ah[E.toNat]=j:=by
     obtain ⟨m,o,rfl⟩:=iM d;have:=J.bH.inj G o (by rw[h.is,P.Fx])
     simp_all
    rw[ej] at e;rw[e];simp only[aw];rw[wr (x:=j.Start+j.aR) (by omega) (by omega)];have pn:=P.now;refine xX st.ai[i].aj (λ_ x=>∀b∈st.aA,b.Node=x.Node->¬b.bT<j.Start+j.aR) (λm g o _ hg=>?_) (λg hG=>?_) (by omega)
    ·simp only[cS o,if_true,bY o,aw,bV (show m<1000000 by omega)];refine (DH st.aA _ _ _ (by omega)).bind λr3 p=>?_;rw[bq];refine ⟨λK=>cY λq=>?_,λK=>hg λb hb hn hf=>K (p.2 ⟨b,hb,?_⟩)⟩
     ·obtain ⟨b,hb,R⟩:=p.1 K;exact q.zk _ z j d P.Fx.symm _ (bA o) b hb R.node R.l
     ·obtain ⟨y,S,rfl⟩:=iM hb;have:=Q y S;exact ⟨hn,(B.each y S).one.span,pn,hf,this.2⟩
    ·simp only[eR,b_,cw];refine w λL M N x G b hb=>?_;have:L=j:=by
      obtain ⟨m,o,rfl⟩:=iM d;obtain ⟨m',O,rfl⟩:=iM M;have:=J.bH.inj O o (by rw[N,P.Fx])
      simp_all
     subst this;exact De (A:=λx=>∀b∈st.aA,b.Node=x.Node->¬b.bT<L.Start+L.aR) hG x G b hb
   ·simp only[eR,b_,cw];exact pY ⟨B,De Q,De W⟩
structure aS (s:aX) (st:bZ):Prop where
 spec:ba s
 nums:Qz s st
 bm:dz s st
 waits:∀j∈st.ah,Hg s st j
 cr:ig s st
 iy:Ab s st
 use:Nh s st
def KR{s:aX}{st:bZ}(a:kF s st):fe (nS 5000 s st) (aS s st):=by
 unfold nS;have step:∀{o:Option Bool}{P:Prop}{k:Option Bool},fe o P->(aS s st->P)->(P->fe k (aS s st))->fe (o.bind λr=>if r=true then k else some false) (aS s st):=λe b f=>e.bind λr d=>bq.2 ⟨λh=>f (d.1 h),λh=>cY λq=>h (d.2 (b q))⟩
 refine step (lY s a.spec) (λq=>q.spec) λk=>?_;refine step (QR k st) (λq=>q.nums) λe=>?_;refine step (jobs_ok k a) (λq=>q.bm) λb=>?_;refine step (PE k a b) (λq=>q.waits) λf=>?_;refine step (DY k a b) (λq=>q.cr) λg=>?_;refine step (Ln a b g) (λq=>q.iy) λi=>?_;refine (XZ a).bind λr d=>?_;rw[aY,d];exact ⟨λj=>⟨k,e,b,f,g,i,j⟩,λq=>q.use⟩
def cG(A:List bW)(i:Int)(c:Nat):Int:=(A.map λa=>dM a.aj i * cmp c a.ay).sum
theorem XR{a:bW}{A:List bW}{i:Int}{c:Nat}:cG (a::A) i c=dM a.aj i * cmp c a.ay+cG A i c:=by simp[cG]
def mD{A:List bW}{k:Nat}(h:k<A.length)(i:Int)(c:Nat):cG (A.take (k+1)) i c=cG (A.take k) i c+dM A[k].aj i * cmp c A[k].ay:=by grind [List.take_succ_eq_append_getElem,cG]
def Ah(n:Int)(A:List bW):Prop:=∀a∈A,bo a.aj n/\aN a.ay
def one_bd{n:Int}{a:bW}(h:bo a.aj n/\aN a.ay)(i:Int)(c:Nat):0<=dM a.aj i * cmp c a.ay/\dM a.aj i * cmp c a.ay<=67108864:=
 gF (rz h.1 i) (v_.1 h.2 c)
theorem vQ{n:Int}{A:List bW}(h:Ah n A)(i:Int)(c:Nat):0<=cG A i c/\cG A i c<=67108864 * A.length:=by
 induction A with
 |nil=>simp[cG]
 |cons a A ih=>
  have d:=ih λb hb=>h b (o_ _ hb);have e:=one_bd (h a (qY ..)) i c
  grind [XR]
def IP(F:List aF)(A:List bW):Prop:=∀i (h:i<F.length) c,cG A i c<=cmp c F[i]
theorem HN{a:aF}{n:Int}(b:aN a)(hn:0<=n/\n<=64):zcU 5000 a n=some (mulR n a):=by
 obtain ⟨m,rfl⟩:∃m:Nat,n=(m:Int):=⟨n.toNat,by omega⟩;unfold zcU;refine bQ.eq (iL m (λk x=>x=((k:Int),(k:Int) * a.bI,(k:Int) * a.Mem,(k:Int) * a.bM,(k:Int) * a.bR)) (λk x f hk d o=>?_) (λx f d=>?_) (by simp) (by omega))
 ·subst d;have g:=gF (n:=((k+1:Nat):Int)) (by omega) b.FL;have h:=gF (n:=((k+1:Nat):Int)) (by omega) b.mem;have i:=gF (n:=((k+1:Nat):Int)) (by omega) b.KD;have j:=gF (n:=((k+1:Nat):Int)) (by omega) b.KP;have e:∀x:Int,((k+1:Nat):Int) * x=(k:Int) * x+x:=λx=>by grind
  rw[e] at g h i j;simp only[cS hk,if_true,Zj,aw,bV (show k<1000000 by omega)]
  grind [wr]
 ·subst d;simp only[eR,b_,cw,aY];rfl
def Xw(a b:aF):fe (OZ 5000 a b) (∀c,cmp c a<=cmp c b):=by
 simp only[OZ,fe,aY,bG,bz];constructor
 ·intro h c
  match c with
  |0=>exact h.1.1.1
  |1=>exact h.1.1.2
  |2=>exact h.1.2
  |_+3=>exact h.2
 ·intro h;exact ⟨⟨⟨h 0,h 1⟩,h 2⟩,h 3⟩
def Xk{F:List aF}{A:List bW}(Q:F.length<=300)(R:A.length<=300)(hs:∀a∈A,a.aj.length<=300){n:Int}(h:Ah n A):bQ (zeC 5000 F A) λr=>r.2=true↔IP F A:=by
 unfold zeC;refine iL F.length (λi x=>(x.1=true↔∀m (h:m<F.length),m<i->∀c,cG A m c<=cmp c F[m])/\x.2.1=(i:Int)/\x.2.2.length=i) (λi x f hi j w=>?_) (λx f j=>?_) ⟨⟨λ_ m h S=>by omega,λ_=>rfl⟩,rfl,rfl⟩ (by omega)
 ·obtain ⟨E,G,o⟩:=x;obtain ⟨d,b,p⟩:=j;dsimp only at d b p;subst b;simp only[cS hi,if_true];refine iL A.length (λk y=>y=((k:Int),cG (A.take k) i 0,cG (A.take k) i 1,cG (A.take k) i 2,cG (A.take k) i 3)) (λk y g hk s K=>?_) (λy g s=>?_) (by simp[cG]) (by omega)
  ·subst s;have t:=h _ (bA hk);have e:Ah n (A.take (k+1)):=λa L=>h a (Mx L);have lk:((A.take (k+1)).length:Int)<=300:=by grind
   have M:=vQ e i 0;have N:=vQ e i 1;have O:=vQ e i 2;have P:=vQ e i 3;rw[mD hk] at M N O P;simp only[cS hk,if_true,bY hk,aw,Ps (hs _ (bA hk)) t.1,HN t.2 (rz t.1 i),Zj,bV (show k<1000000 by omega)];refine K _ ?_;rw[mD hk,mD hk,mD hk,mD hk];have T:(mulR (dM A[k].aj i) A[k].ay).bI=dM A[k].aj i * cmp 0 A[k].ay:=rfl;have U:(mulR (dM A[k].aj i) A[k].ay).Mem=dM A[k].aj i * cmp 1 A[k].ay:=rfl;have W:(mulR (dM A[k].aj i) A[k].ay).bM=dM A[k].aj i * cmp 2 A[k].ay:=rfl;have X:(mulR (dM A[k].aj i) A[k].ay).bR=dM A[k].aj i * cmp 3 A[k].ay:=rfl
   grind [wr]
  ·subst s;have ap:∀z:aF,cB o [z]=some (o++[z]):=λz=>ze (by grind);simp only[eR,b_,cw,eE,bY hi,aw,zcG,ap,bV (show i<1000000 by omega),xB];rw[bq];refine ⟨λu=>?_,λu=>?_⟩
   ·refine (Xw _ _).bind λr v=>?_;refine w _ ⟨?_,rfl,by simp_all⟩;dsimp only;rw[v];have σ:∀c,cmp c ({ bI:=cG A i 0,Mem:=cG A i 1,bM:=cG A i 2,bR:=cG A i 3 }:aF)=cG A i (min c 3):=λc=>by
     match c with
     |0=>rfl
     |1=>rfl
     |2=>rfl
     |c+3=>rw[Nat.min_eq_right (by omega)];rfl
    have Z:∀c,cG A i (min c 3)=cG A i c:=λc=>by
     match c with
     |0=>rfl
     |1=>rfl
     |2=>rfl
     |c+3=>rw[Nat.min_eq_right (by omega)];rfl
    grind
   grind
 ·obtain ⟨E,G,o⟩:=x;obtain ⟨d,b,p⟩:=j;dsimp only at d b p;subst b;simp only[eR,b_,cw,aY];rw[d];exact ⟨λq i hi c=>q i hi hi c,λq i hi _ c=>q i hi c⟩
structure S_ (s:aX) (st:bZ) (i:Nat) (a:bW):Prop where
 up:∀m (h:m<st.ai.length),m+1=i->st.ai[m].bj<a.bj
 Fx:∃j∈st.ah,j.Id=a.bj
 shares:bo a.aj s.am.length
 need:aN a.ay
structure ZE (s:aX) (st:bZ):Prop where
 each:∀i (h:i<st.ai.length),S_ s st i st.ai[i]
 fit:IP s.am st.ai
def ZE.NR{s:aX}{st:bZ}(h:ZE s st):Ah s.am.length st.ai:=λa j=>by obtain ⟨i,hi,rfl⟩:=iM j;exact ⟨(h.each i hi).shares,(h.each i hi).need⟩
def OW{s:aX}{st:bZ}(d:kF s st):fe (zdy 5000 s st) (ZE s st):=by
 have hl:=d.bm;have u:=d.cr;have hn:=d.spec.nodes;unfold zdy;refine xX st.ai (λi a=>S_ s st i a) (λi f hi p v=>?_) (λf p=>?_) (by omega)
 ·have K:decide ((i:Int) > 0)=decide (0<i):=by simp
  have w:=d.shares _ (bA hi);have fin:(∀m (h:m<st.ai.length),m+1=i->st.ai[m].bj<st.ai[i].bj)->bQ ((za8 5000 st.ah st.ai[i].bj).bind λr=>
    if decide (r<0)=true then some false else (zbw 5000 st.ai[i].aj (s.am.length:Int)).bind λz=>
    if (!z)=true then some false else (zaX 5000 st.ai[i].ay).bind λg=>if (!g)=true then some false else f ((i+1:Nat):Int)) (λb=>b=true↔ZE s st):=λx=>by
   refine (vl (by omega) st.ai[i].bj).bind λr k=>?_;rw[bq];refine ⟨λh=>cY λq=>?_,λh=>?_⟩
   ·have:=k.1.2 (q.each i hi).Fx
    simp_all
   ·simp only[bz] at h;refine (Hf _ _ (jk w (by decide))).bind λz n=>?_;rw[bq];refine ⟨λh=>cY λq=>?_,λt=>?_⟩
    ·have:=n.2 (q.each i hi).shares
     simp_all
    ·simp only[hZ,nI] at t;refine (Am _).bind λg o=>?_;rw[bq];refine ⟨λh=>cY λq=>?_,λA=>?_⟩
     ·have:=o.2 (q.each i hi).need
      simp_all
     ·simp only[hZ,nI] at A;exact v ⟨x,k.1.1 (by omega),n.1 t,o.1 A⟩
  simp only[eE,cS hi,if_true,bY hi,aw,bV (show i<1000000 by omega),K];rw[bq];refine ⟨λh=>?_,λh=>?_⟩
  ·simp only[bz] at h;obtain ⟨m,rfl⟩:∃m,i=m+1:=⟨i-1,by omega⟩;rw[wp1 (show m+1<1000000 by omega),bY (show m<st.ai.length by omega),aw,bq];refine ⟨λt=>cY λq=>?_,λt=>fin λM L e=>?_⟩
   ·have:=(q.each (m+1) hi).up m (by omega) rfl
    grind
   simp_all
  simp_all
 ·simp only[eR,b_,cw];have G:Ah s.am.length st.ai:=λa y=>by
   obtain ⟨j,E,rfl⟩:=iM y;exact ⟨(p j E).shares,(p j E).need⟩
  refine (Xk (by omega) u (λa y=>jk (d.shares a y) (by decide)) G).bind λr v=>?_;rw[aY,v];exact ⟨λh=>⟨λi hi=>p i hi,h⟩,λh=>h.fit⟩
theorem QQ{l:List Int}(h:∀i (h:i+1<l.length),l[i]<l[i+1]):l.Pairwise (·<·):=by
 rw[yBg];intro i j hi b a;induction j with
 |zero=>omega
 |succ j ih=>grind
theorem asc_eq{l m:List Int}(hl:l.Pairwise (·<·))(hm:m.Pairwise (·<·))(h:∀x,x∈l↔x∈m):l=m:=by
 induction l generalizing m with
 |nil=>
  cases m with
  |nil=>rfl
  |cons y m=>grind [List.mem_cons_self]
 |cons x l ih=>
  cases m with
  |nil=>grind
  |cons y m=>
   rw[yBy] at hl hm;have e:x=y:=by
    rcases gy.1 ((h x).1 (qY ..)) with e | a
    ·exact e
    ·rcases gy.1 ((h y).2 (qY ..)) with e | b
     ·omega
     grind
   grind
theorem od{s:aX}{st:bZ}{H:List aJ}{A:List bW}{F:List aF}(h:eS s st H A F)(f:∀r∈F,aN r):A.map (·.bj)=H.map (·.Id)/\IP F A:=by
 induction H generalizing A F with
 |nil=>rw[show A=[] from h];exact ⟨rfl,λi hi c=>by grind [cG,v_,List.getElem_mem]⟩
 |cons j H ih=>
  obtain ⟨a,g,rfl,k,b,d⟩:=h;obtain ⟨m,e⟩:=ih d (vr b);refine ⟨by grind [fj.Fx],λi hi c=>?_⟩;have:=e i (by grind [zeM]) c;rw[np,qw,Co,A_] at this
  grind [XR]
theorem ML{s:aX}{st:bZ}{n:Int}{H:List aJ}{A:List bW}{F:List aF}(d:A.map (·.bj)=H.map (·.Id))(t:∀r∈F,aN r)(g:∀a∈A,∀j∈H,a.bj=j.Id->fj s st j a)(h:Ah n A)(m:IP F A):eS s st H A F:=by
 induction H generalizing A F with
 |nil=>
  cases A with
  |nil=>rfl
  |cons a A=>cases d
 |cons j H ih=>
  cases A with
  |nil=>cases d
  |cons a A=>
   rw[rS,rS] at d;have e:a.bj=j.Id:=by simp_all
   have f:A.map (·.bj)=H.map (·.Id):=by simp_all
   have u:=h a (qY ..);have o:Ah n A:=λb hb=>h b (o_ _ hb);have fa:uJ F a:=λi hi=>v_.2 λc=>by have p:=m i hi c;have v:=one_bd u i c;have w:=vQ o i c;have x:=v_.1 (t _ (bA hi)) c;rw[XR] at p;rw[qw,Co,A_];omega
   refine ⟨a,A,rfl,g a (qY ..) j (qY ..) e,fa,ih f (vr fa) (λb hb k hk=>g b (o_ _ hb) k (o_ _ hk)) o λi hi c=>?_⟩;have p:=m i (by grind [zeM]) c;rw[np,qw,Co,A_]
   grind [XR]
def JZ{s:aX}{st:bZ}(J:dz s st):((st.ah.filter tj).map (·.Id)).Pairwise (·<·):=by
 have h:(st.ah.map (·.Id)).Pairwise (·<·):=QQ λi hi=>by rw[Wc,Wc];exact J.bH i (by simp_all)
 grind
structure Zk (s:aX) (st:bZ) (j:aJ):Prop where
 has:(∃a∈st.ai,a.bj=j.Id)↔tj j=true
 ZV:∀a∈st.ai,a.bj=j.Id->fj s st j a
theorem KF{s:aX}{st:bZ}(k:ba s)(J:dz s st)(A:ig s st):ZE s st/\∀j∈st.ah,Zk s st j:=by
 obtain ⟨o,p⟩:=od A k.nodes.ok;have pw:=JZ J;rw[<-o] at pw;have By:∀j∈st.ah,∀f∈st.ah,j.Id=f.Id->j=f:=λj b f d e=>by
  obtain ⟨m,n,rfl⟩:=iM b;obtain ⟨t,g,rfl⟩:=iM d;have:=J.bH.inj n g e
  simp_all
 refine ⟨⟨λi hi=>?_,p⟩,λj b=>⟨⟨λ⟨a,h,e⟩=>?_,λr=>?_⟩,λa h e=>?_⟩⟩
 ·obtain ⟨j,b,P⟩:=A.mem _ (bA hi);refine ⟨λm n e=>?_,⟨j,b,P.Fx.symm⟩,P.kM.shares,by rw[P.need];exact (J.each j b).ok.need⟩
  grind [List.pairwise_iff_getElem]
 ·have:a.bj∈st.ai.map (·.bj):=iX.2 ⟨a,h,rfl⟩
  grind
 ·have:j.Id∈(st.ah.filter tj).map (·.Id):=iX.2 ⟨j,Gp.2 ⟨b,r⟩,rfl⟩
  grind
 ·obtain ⟨f,d,P⟩:=A.mem a h
  grind [fj.Fx]
def Xd{s:aX}{st:bZ}(k:ba s)(J:dz s st)(R:ZE s st)(h:∀j∈st.ah,Zk s st j):ig s st:=by
 have pw:(st.ai.map (·.bj)).Pairwise (·<·):=QQ λi hi=>by rw[Wc,Wc];exact (R.each (i+1) (by simp_all)).up i (by grind) rfl
 refine ML (n:=s.am.length) (asc_eq pw (JZ J) λx=>⟨λf=>?_,λf=>?_⟩) k.nodes.ok (λa d j b e=>(h j (Gp.1 b).1).ZV a d e) R.NR R.fit
 ·obtain ⟨a,d,rfl⟩:=iX.1 f;obtain ⟨i,hi,rfl⟩:=iM d;obtain ⟨j,b,e⟩:=(R.each i hi).Fx;exact iX.2 ⟨j,Gp.2 ⟨b,(h j b).has.1 ⟨_,d,e.symm⟩⟩,e⟩
 ·obtain ⟨j,b,rfl⟩:=iX.1 f;obtain ⟨a,d,e⟩:=(h j (Gp.1 b).1).has.2 (Gp.1 b).2
  grind
structure rF (u:EG) (n:Int):Prop where
 shares:bo u.aj n
 xR:u.aj.length<=300
 need:aN u.ay
 lo:0<=u.bT
 hi:u.To<=281474976710656
def ko(u:EG)(k t:Int):aF:=if u.bT<=t/\t<u.To then mulR (dM u.aj k) u.ay else bK
def bn(L:List EG)(k t:Int):aF:=L.foldl (λr u=>BA r (ko u k t)) bK
theorem mT(L:List EG)(u:EG)(k t:Int):bn (L++[u]) k t=BA (bn L k t) (ko u k t):=by simp[bn]
def Fw(B:List kH)(k t:Int):Prop:=∃b∈B,b.Node=k/\b.bT<=t/\t<b.To
open Classical in
noncomputable def bC(q:jS)(k t:Int):aF:=if Fw q.aA k t then bK else fD (jj q.S.am k) (bn q.L k t)
structure qd (q:jS):Prop where
 spec:ba q.S
 now:0<=q.aO/\q.aO<=1099511627776
 cF:zX q.aA q.S.am.length
 used:∀u∈q.L,rF u q.S.am.length
 xR:q.L.length<=100
def pf_add{a b:aF}(d:∀c,0<=cmp c a/\cmp c a<=1099511627776)(hb:∀c,0<=cmp c b/\cmp c b<=1099511627776):Zj 5000 a b=some (BA a b):=by
 unfold Zj BA;have e:=hb 0;have f:=hb 1;have g:=hb 2;have h:=hb 3;have i:=d 0;have j:=d 1;have k:=d 2;have m:=d 3
 grind [cmp,wr]
def pf_sub{a b:aF}(d:∀c,0<=cmp c a/\cmp c a<=1099511627776)(hb:∀c,0<=cmp c b/\cmp c b<=1099511627776):zcG 5000 a b=some (fD a b):=by
 unfold zcG fD;have e:=hb 0;have f:=hb 1;have g:=hb 2;have h:=hb 3;have i:=d 0;have j:=d 1;have k:=d 2;have m:=d 3
 grind [cmp,wr]
def Tl(a b:aF):∃r,OZ 5000 a b=some r:=⟨_,rfl⟩
def Jb{u:EG}{n:Int}(h:rF u n)(k t:Int)(c:Nat):0<=cmp c (ko u k t)/\cmp c (ko u k t)<=67108864:=by
 unfold ko;split
 ·rw[A_];exact gF (rz h.shares k) (v_.1 h.need c)
 grind [Oe]
theorem Il(a:aF):BA a bK=a:=Oy λc=>by rw[vU,Oe];omega
theorem Hi{L:List EG}{n:Int}(h:∀u∈L,rF u n)(k t:Int)(c:Nat)(i:Nat):0<=cmp c (bn (L.take i) k t)/\cmp c (bn (L.take i) k t)<=67108864 * i:=by
 induction i with
 |zero=>simp[bn,Oe]
 |succ i ih=>
  by_cases hi:i<L.length
  ·rw[Hw hi,mT,vU];have:=Jb (h _ (bA hi)) k t c;omega
  grind [List.take_of_length_le]
section
variable{q:jS}(hq:qd q)
include hq
theorem XX(k t:Int):zcD 5000 q k t=some (bn q.L k t):=by
 have hl:=hq.xR;unfold zcD;refine bQ.eq (iL q.L.length (λi x=>x=((i:Int),(bn (q.L.take i) k t).bI,(bn (q.L.take i) k t).Mem,(bn (q.L.take i) k t).bM,(bn (q.L.take i) k t).bR)) (λi x f hi a g=>?_) (λx f a=>?_) (by simp[bn,bK]) (by omega))
 ·subst a;have u:=hq.used _ (bA hi);have j:=Hi hq.used k t;simp only[eE];rw[if_pos (cS hi),bY hi,aw,bV (show i<1000000 by omega)];have st:bn (q.L.take (i+1)) k t=BA (bn (q.L.take i) k t) (ko q.L[i] k t):=by rw[Hw hi,mT]
  by_cases h:q.L[i].bT<=t/\t<q.L[i].To
  ·rw[if_pos (by simp_all),Ps u.xR u.shares,aw,HN u.need (rz u.shares k),aw];have b:ko q.L[i] k t=mulR (dM q.L[i].aj k) q.L[i].ay:=by unfold ko;simp_all
   have d:=Jb u k t;rw[b] at d;have e:Zj 5000 ({ bI:=(bn (q.L.take i) k t).bI,Mem:=(bn (q.L.take i) k t).Mem,bM:=(bn (q.L.take i) k t).bM,bR:=(bn (q.L.take i) k t).bR }:aF) (mulR (dM q.L[i].aj k) q.L[i].ay)=some (BA (bn (q.L.take i) k t) (mulR (dM q.L[i].aj k) q.L[i].ay)):=
    pf_add (λc=>by grind) (λc=>by grind)
   simp_all
  ·rw[if_neg (by simp_all)];have b:ko q.L[i] k t=bK:=by unfold ko;grind
   grind [Il]
 ·subst a;dsimp only;rw[if_neg (by simp),aY,xB]
theorem XC(k:Int){t:Int}(d:0<=t):fe (zb8 5000 q.aA k t (i64.wrap (t+1))) (Fw q.aA k t):=by
 have hl:=hq.cF.len;refine (Hj q.aA k t _ (by omega)).mono λr h=>h.trans ?_;constructor
 ·rintro ⟨b,hb,m⟩;obtain ⟨i,hi,rfl⟩:=iM hb;have o:=(hq.cF.each i hi).one;refine ⟨_,hb,m.node,?_,m.r⟩;have e:=m.l;have f:=m.pq;have g:=m.r;have:=o.hi
  grind [wr]
 ·rintro ⟨b,hb,m1,j,a⟩;obtain ⟨i,hi,rfl⟩:=iM hb;have o:=(hq.cF.each i hi).one;have:=o.hi;have:=o.lo;exact ⟨_,hb,m1,by omega,by grind [wr],by grind [wr],a⟩
theorem Sb{k:Nat}(hk:k<q.S.am.length){t:Int}(b:0<=t):bQ (zbW 5000 q k t) λr=>r.1=bC q k t:=by
 unfold zbW;rw[XX hq,aw];refine (XC hq k b).bind λr a=>?_;unfold bC;by_cases h:Fw q.aA k t
 ·rw[if_pos h,if_pos (a.2 h)];obtain ⟨x,e⟩:=Tl (bn q.L k t) { bI:=0,Mem:=0,bM:=0,bR:=0 };rw[e,aw,aY];rfl
 ·rw[if_neg h,if_neg λe=>h (a.1 e),bY hk,aw];have n:=hq.spec.nodes.ok _ (bA hk);have d:=Hi hq.used k t;have hl:=hq.xR;rw[pf_sub (λc=>by grind [v_]) (λc=>by grind [List.take_length]),yA,yA];obtain ⟨x,e⟩:=Tl (bn q.L k t) q.S.am[k];rw[e,aw,aY];have:jj q.S.am k=q.S.am[k]:=by grind [jj]
  rw[this]
end
def timeV(q:jS)(x:Int):Prop:=x=q.aO\/(∃u∈q.L,x=u.bT\/x=u.To)\/∃b∈q.aA,x=b.bT\/x=b.To
structure Dj (q:jS) (T:List Int):Prop where
 bH:T.Pairwise λa b=>a<b
 mem:∀x,x∈T↔q.aO<=x/\timeV q x
 len:T.length<=300
structure CZ (l:List Int) (now:Int) (T:List Int):Prop where
 bH:T.Pairwise λa b=>a<b
 mem:∀x,x∈T↔now<=x/\x∈l
 len:T.length<=l.length
def Zx(l:List Int)(hl:l.length<=300)(now:Int):bQ (zdf 5000 l now) (CZ l now):=by
 unfold zdf;refine iL l.length (λi x=>x.2=(i:Int)/\CZ (l.take i) now x.1) (λi x f hi e t=>?_) (λx f e=>?_) ⟨rfl,by simp,by simp,by simp⟩ (by omega)
 ·obtain ⟨T,y⟩:=x;obtain ⟨rfl,g⟩:=e;dsimp only at g ⊢;have w:=g.len;rw[BZ] at w;rw[if_pos (cS hi),eE];have p:l.take (i+1)=l.take i++[l[i]]:=Hw hi;have z:(l.take (i+1)).length=(l.take i).length+1:=by grind
  have same:CZ (l.take i) now T->(l[i]<now\/l[i]∈T)->CZ (l.take (i+1)) now T:=λh d=>⟨h.bH,λx=>by
   rw[p,kL,zV,h.mem];constructor
   ·grind
   ·rintro ⟨a,b | b⟩
    ·grind
    ·subst b;rcases d with d | d
     ·omega
     ·exact (h.mem _).1 d,by grind⟩
  refine iL T.length (λj x=>x=(j:Int)/\∀m (u:m<T.length),m<j->T[m]<l[i]) (λj x A k e E=>?_) (λx A e=>?_) ⟨rfl,λm _ h=>by omega⟩ (by omega)
  ·obtain ⟨rfl,G⟩:=e;rw[eE,if_pos (cS k),bY k,aw,bY hi,aw,bq];refine ⟨λh=>?_,λh=>?_⟩
   ·simp only[bz] at h
    grind [bV]
   ·simp only[bz] at h;rw[eE,aw,bq];refine ⟨λd=>?_,λd=>?_⟩
    ·simp only[bz] at d;dsimp only;rw[if_pos rfl,bV (show i<1000000 by omega)]
     grind
    ·simp only[bz] at d;rw[if_pos (cS k),aw,aw,bq];refine ⟨λr=>?_,λr=>?_⟩
     ·simp only[lA] at r
      grind [bV]
     ·simp only[lA] at r;rw[yp (yCx k),aw,Eh (by grind),aw,aw,ze (by grind),aw,jI (yCx k),aw,ze (by grind),aw,bV (show i<1000000 by omega)];have n:T=T.take j++T.drop j:=(JN ..).symm;have o:=g.bH;rw[n] at o;obtain ⟨p1,K,M⟩:=IZ.1 o;have N:∀x∈T.drop j,l[i]<x:=λx e=>by
       obtain ⟨m,u,rfl⟩:=OA.1 e
       grind [Nat.eq_zero_or_pos,List.pairwise_iff_getElem]
      have L:∀x∈T.take j,x<l[i]:=λx e=>by
       obtain ⟨m,u,rfl⟩:=OA.1 e
       grind
      refine t _ ⟨rfl,IZ.2 ⟨IZ.2 ⟨p1,by simp,λa v b hb=>by grind⟩,K,λa v b hb=>?_⟩,λx=>?_,?_⟩
      ·grind
      ·rw[p,kL (s:=l.take i),zV];have:=g.mem x;rw[n,kL] at this;rw[kL,kL,zV];constructor
       ·rintro ((a | a) | a)
        ·grind
        ·omega
        grind
       grind
      grind
  ·obtain ⟨rfl,G⟩:=e;rw[eE,if_neg (by simp)];dsimp only;rw[if_neg (by simp),eE,bY hi,aw,bq];refine ⟨λd=>?_,λd=>?_⟩
   ·simp only[bz] at d;dsimp only;rw[if_pos rfl,bV (show i<1000000 by omega)]
    grind
   ·simp only[bz] at d;rw[if_neg (by simp)];dsimp only;rw[if_neg (by simp)];rw[yp (cP _),aw,Eh (by grind),aw,aw,ze (by grind),aw,jI (cP _),aw,ze (by grind),aw,bV (show i<1000000 by omega)];rw[xB,List.drop_length,CD];refine t _ ⟨rfl,IZ.2 ⟨g.bH,by simp,λa v b hb=>?_⟩,λx=>?_,by grind⟩
    ·grind [List.getElem_of_mem]
    ·rw[p,kL,zV,kL,zV,g.mem]
     grind
 ·obtain ⟨T,y⟩:=x;obtain ⟨rfl,g⟩:=e;dsimp only at g ⊢;rw[if_neg (by simp),aY]
  simp_all
def KY{q:jS}(hq:qd q):bQ (zbK 5000 q) (Dj q):=by
 have hl:=hq.xR;have hb:=hq.cF.len;unfold zbK;refine iL q.L.length (λi x=>x.1=(i:Int)/\x.2.length=1+2 * i/\∀y,y∈x.2↔y=q.aO\/∃u∈q.L.take i,y=u.bT\/y=u.To) (λi x f hi b g=>?_) (λx f b=>?_) ⟨rfl,rfl,λy=>by simp⟩ (by omega)
 ·obtain ⟨y,T⟩:=x;obtain ⟨rfl,e,a⟩:=b;dsimp only at e a ⊢;rw[if_pos (cS hi)];simp only[bY hi,aw];rw[ze (by grind),aw,ze (by grind),aw,bV (show i<1000000 by omega)];refine g _ ⟨rfl,by grind,λy=>?_⟩;rw[Hw hi];simp only[kL,zV,a];constructor
  ·rintro (((h | ⟨u,h1,h2⟩) | h) | h)
   ·omega
   ·grind
   ·simp_all
   simp_all
  grind
 ·obtain ⟨y,m⟩:=x;obtain ⟨rfl,j,d⟩:=b;dsimp only at j d ⊢;rw[if_neg (by simp)];rw[xB] at d;refine iL q.aA.length (λi x=>x.1=(i:Int)/\x.2.length=m.length+2 * i/\∀y,y∈x.2↔y∈m\/∃u∈q.aA.take i,y=u.bT\/y=u.To) (λi x f hi b g=>?_) (λx f b=>?_) ⟨rfl,rfl,λy=>by simp⟩ (by omega)
  ·obtain ⟨y,T⟩:=x;obtain ⟨rfl,e,a⟩:=b;dsimp only at e a ⊢;rw[if_pos (cS hi)];simp only[bY hi,aw];rw[ze (by grind),aw,ze (by grind),aw,bV (show i<1000000 by omega)];refine g _ ⟨rfl,by grind,λy=>?_⟩;rw[Hw hi];simp only[kL,zV,a];constructor
   ·rintro (((h | ⟨u,h1,h2⟩) | h) | h)
    ·simp_all
    ·grind
    ·simp_all
    simp_all
   grind
  ·obtain ⟨y,T⟩:=x;obtain ⟨rfl,e,a⟩:=b;dsimp only at e a ⊢;rw[if_neg (by simp)];rw[xB] at a;refine (Zx T (by omega) q.aO).bind λR k=>?_;rw[aY];refine ⟨k.bH,λx=>?_,by have:=k.len;omega⟩;rw[k.mem,a,d,or_assoc];rfl
end Go.Plain
end
section
namespace Go.Plain
open Go.Abs
theorem jn_ite{X R:Type}{r:X->Option R}{c:Prop}[Decidable c]{a b:X}:jn r (λj=>if c then j a else j b)=r (if c then a else b):=by grind [Go.Abs.jn]
theorem Sk{l:List dk}{n:Int}(h:bo l n){i:Int}:dM l i > 0↔∃x∈l,x.Node=i:=by
 have b:∀x∈l,1<=x.aL:=λx a=>(h.mem x a).2.2.1;clear h;induction l with
 |nil=>simp[dM]
 |cons y l ih=>
  have d:=ih λx a=>b x (o_ _ a);have f:=b y (qY ..);have g:=yi (l:=l) (λx a=>by grind) i;have e:dM (y::l) i=(if y.Node=i then y.aL else 0)+dM l i:=by simp[dM]
  grind
def AB(st:bZ)(node b:Int)(a:bW):Prop:=∃j∈st.ah,j.Id=a.bj/\(∃x∈a.aj,x.Node=node)/\b<j.Start+j.aR
def Tx{s:aX}{st:bZ}(u:kF s st)(R:ZE s st)(node d:Int):bQ (zdX 5000 st node d) λb=>dz s st->(b=true↔∃a∈st.ai,AB st node d a):=by
 have hl:=u.bm;have N:=u.cr;unfold zdX;refine xX st.ai (λi a=>dz s st->¬AB st node d a) (λi f hi K v=>?_) (λf K=>?_) (by omega)
 ·simp only[eE,cS hi,if_true,bY hi,aw,bV (show i<1000000 by omega)];have t:=bA hi;refine (vl (by omega) st.ai[i].bj).bind λr w=>?_;rw[bq];refine ⟨λh=>?_,λh=>?_⟩
  ·simp only[bz] at h;have g:=w.2.1 h;have S:=(R.each i hi).shares;obtain ⟨L,e⟩:=AV (l:=st.ah) g.lo (by have:=g.lo;have:=g.hi;omega);have y:=bA L;have fin:bQ (if decide (i64.wrap (st.ah[r.toNat].Start+st.ah[r.toNat].aR) > d)=true then some true else f ((i+1:Nat):Int)) (λb=>(∃x∈st.ai[i].aj,x.Node=node)->dz s st->(b=true↔∃a∈st.ai,AB st node d a)):=by
    rw[bq];refine ⟨λk=>?_,λk=>?_⟩
    ·rw[aY];intro z J;have o:=(J.each _ y).ok;have:=o.start;have:=o.wall;rw[wr (by omega) (by omega)] at k;simp only[bz] at k;exact ⟨λ_=>⟨_,t,_,y,g.is,z,k⟩,λ_=>rfl⟩
    ·refine (v λJ E=>?_).mono λb hb _=>hb;obtain ⟨j,n,G,-,M⟩:=E;have:j=st.ah[r.toNat]:=by
      obtain ⟨m,O,rfl⟩:=iM n;have:=J.bH.inj O L (by rw[G,g.is])
      simp_all
     subst this;have o:=(J.each _ y).ok;have:=o.start;have:=o.wall;rw[wr (by omega) (by omega)] at k
     simp_all
   rw[Ps (jk (u.shares _ t) (by decide)) S,aw,e,bq];simp only[aw];refine ⟨λk=>?_,λk=>?_⟩
   ·simp only[bz] at k
    grind [Sk]
   ·simp only[bz] at k;rw[if_neg (by simp)];exact v λJ ⟨j,n,G,p,M⟩=>k ((Sk S).2 p)
  ·simp only[bz] at h;rw[if_neg (by simp)];exact v λJ ⟨j,n,G,p,M⟩=>by simp_all
 ·simp only[eR,b_,cw,aY,FH];rintro J ⟨a,t,E⟩;exact De (A:=λa=>dz s st->¬AB st node d a) K a t J E
def Vb{s:aX}{st:bZ}(v:kF s st)(R:ZE s st):bQ (zdT 5000 s st) λb=>dz s st->(b=true↔Ab s st):=by
 have hl:=v.cF;unfold zdT;refine xX st.aA (λi b=>(b.Id<st.dr/\st.aO<b.To)/\(dz s st->¬∃a∈st.ai,AB st b.Node b.bT a)) (λi f hi w g=>?_) (λf w=>?_) (by omega)
 ·simp only[eE,cS hi,if_true,bY hi,aw,bV (show i<1000000 by omega)];have hb:=bA hi;rw[bq];refine ⟨λh=>?_,λh=>?_⟩
  ·rw[aY];intro J;simp only[gE,bz] at h;simp only[b_,FH];exact λq=>by have:=q.live _ hb;omega
  ·simp only[gE,bz] at h;refine (Tx v R _ _).bind λr d=>?_;rw[bq];refine ⟨λk=>?_,λk=>g ⟨by omega,λJ=>λq=>k ((d J).2 q)⟩⟩;rw[aY];intro J;simp only[b_,FH];intro q;obtain ⟨a,n,j,o,e,⟨x,p,t⟩,u⟩:=(d J).1 k;exact q.zk a n j o e x p _ hb t.symm u
 ·simp only[eR,b_,cw];refine (XD _ _ (by omega)).bind λr g=>?_;rw[aY];intro J;rw[g];refine ⟨λh=>⟨h,λb hb=>?_,λa n j o e x p b hb t u=>?_⟩,λq=>q.cF⟩
  ·grind [List.getElem_of_mem]
  ·obtain ⟨m,y,rfl⟩:=iM hb;exact (w m y).2 J ⟨a,n,j,o,e,⟨x,p,t.symm⟩,u⟩
structure AtA (l:List bW) (id:Int) (r:Int):Prop where
 lo:0<=r
 hi:r.toNat<l.length
 is:l[r.toNat].bj=id
def Uq{l:List bW}(hl:l.length<=300)(id:Int):bQ (zez 5000 l id) λr=>(0<=r↔∃a∈l,a.bj=id)/\(0<=r->AtA l id r):=by
 unfold zez;refine xX l (λ_ j=>j.bj≠id) (λi f h _ b=>?_) (λf h=>?_) (by omega)
 ·simp only[cS h,if_true,bY h,aw,bV (show i<1000000 by omega),bq,aY,lA];exact ⟨λe=>⟨⟨λ_=>⟨_,bA h,e⟩,λ_=>by omega⟩,λ_=>⟨by omega,by omega,by simp_all⟩⟩,λe=>b e⟩
 ·simp only[eR,b_,cw,aY];refine ⟨⟨λh=>by omega,λ⟨j,d,e⟩=>absurd e (De (A:=λj=>j.bj≠id) h j d)⟩,λh=>by omega⟩
def ZE.By{s:aX}{st:bZ}(R:ZE s st){i j:Nat}(hi:i<st.ai.length)(o:j<st.ai.length)(e:st.ai[i].bj=st.ai[j].bj):i=j:=by
 have pw:(st.ai.map (·.bj)).Pairwise (·<·):=QQ λi hi=>by rw[Wc,Wc];exact (R.each (i+1) (by simp_all)).up i (by grind) rfl
 grind [List.pairwise_iff_getElem]
structure O_ (s:aX) (st:bZ) (j:aJ):Prop where
 OC:gq s st j
 waits:Hg s st j
 has:Zk s st j
def ref_job{s:aX}(k:ba s){st:bZ}(t:kF s st)(R:ZE s st){j:aJ}(T:j∈st.ah):fe (ze6 5000 s st j) (O_ s st j):=by
 have kv:=k.ub;have hl:=t.bm;have E:=t.cr;unfold ze6;refine (Gr j (t.after j T)).bind λr u=>?_;rw[bq];refine ⟨λh=>cY λq=>?_,λh=>?_⟩
 ·have:=u.2 q.OC.ok;rw[this] at h;simp only[gE,bz,Ot,b_,false_or] at h;have:=q.OC.next;have:=q.OC.user;have:=q.OC.queue;have:=q.OC.born;have:=q.OC.start;have:=q.OC.fin;omega
 ·simp only[gE,bz,not_or,hZ,nI] at h;have p:=u.1 h.1.1.1.1.1.1;have U:=p.state.st;have X:=p.start;have σ:=p.wall;simp only[jn_ite];generalize Z:(if decide (j.State≥5)=true then (3:Int) else if (j.State == 4)=true then 2 else if (j.State == 3)=true then 1 else 0)=e;have ev:e=jv j.State:=by
   rw[<-Z];simp only[jv,bz,lA,ge_iff_le];omega
  have eb:=Fk j.State;refine (Uq E j.Id).bind λr8 v=>?_;simp only[eE,zdJ,aw];rw[ev,wr (x:=s.aI+jv j.State) (by omega) (by omega),bq];refine ⟨λO=>cY λq=>?_,λO=>?_⟩
  ·have:=q.OC.version
   grind
  ·simp only[bz] at O;have I:gq s st j:=⟨p,by omega,by omega,by omega,by omega,by omega,by omega,by omega⟩;have eh:((j.State == 3) || (j.State == 4))=tj j:=rfl;rw[eh,bq];refine ⟨λh3=>cY λq=>?_,λh3=>?_⟩
   ·have:=q.has.has
    simp_all
   ·have n:(∃a∈st.ai,a.bj=j.Id)↔tj j=true:=by
     grind
    rw[bq];refine ⟨λG=>pY ?_,λG=>?_⟩
    ·simp only[bz] at G;refine ⟨I,λhs=>by omega,n,λa A e=>?_⟩
     grind
    ·simp only[bz] at G;have A:=p.kI;refine xX j.aE (λ_ d=>∃i∈st.ah,i.Id=d.bj) (λm g w P hr=>?_) (λg P=>?_) (by omega)
     ·simp only[cS w,if_true,bY w,aw,bV (show m<1000000 by omega)];refine (vl (by omega) j.aE[m].bj).bind λr y=>?_;rw[bq];refine ⟨λz=>cY λq=>?_,λz=>hr (y.1.1 ?_)⟩
      ·have:=y.1.2 ((q.waits (by omega)).after _ (bA w))
       simp_all
      simp_all
     ·simp only[eR,b_,cw];obtain ⟨b,e1,e2⟩:=Ti t.spec k (q:=j.Queue) (m:=j.aL) p.need p.rZ;rw[e2,aw,bq];refine ⟨λz=>cY λq=>?_,λz=>?_⟩
      ·have:=(q.waits (by omega)).fits
       simp_all
      ·simp only[hZ,nI] at z;subst z;have W:Hg s st j:=λ_=>⟨e1,De P⟩;rw[bq];refine ⟨λK=>pY ⟨I,W,n,λa A e=>?_⟩,λK=>?_⟩
       ·simp_all
       ·simp only[hZ,nI] at K;have r0:=v.1.2 (n.2 K);have f:=v.2 r0;obtain ⟨Q,e3⟩:=AV (l:=st.ai) f.lo (by have:=f.lo;have:=f.hi;omega);have o:=bA Q;rw[wr (x:=j.Start+j.aR) (by omega) (by omega),e3,bq];simp only[aw];refine ⟨λL=>?_,λL=>cY λq=>?_⟩
        ·simp only[bz] at L;rw[bq];refine ⟨λM=>?_,λM=>cY λq=>M (gZ.2 (q.has.ZV _ o f.is).need)⟩;have eN:=gZ.1 M;refine (ZO t.spec k j _ (jk (t.shares _ o) (by decide))).bind λr N=>?_;rw[aY,N];refine ⟨λS=>⟨I,W,n,λa A e=>?_⟩,λq=>(q.has.ZV _ o f.is).kM⟩;have:a=st.ai[r8.toNat]:=by
          obtain ⟨m,w,rfl⟩:=iM A;have:=R.By w Q (by rw[e,f.is])
          simp_all
         subst this;exact ⟨e,eN,S,L⟩
        ·have:=(q.has.ZV _ o f.is).now
         simp_all
def H_{s:aX}{st:bZ}(b:kF s st):fe (zcP 5000 s st) (aS s st):=by
 have hl:=b.bm;have hq:=b.stamps;have S:=b.use;unfold zcP;simp only[eE];refine (Ue s b.spec).bind λr e=>?_;rw[bq];refine ⟨λh=>?_,λh=>?_⟩
 ·rw[if_pos trivial];refine cY λq=>?_;have:=e.2 q.spec;rw[this] at h;have T:=q.spec.ids;have:=q.nums.now;have:=q.nums.next;have:=q.nums.book;rw[wr (x:=s.iN+1) (by omega) (by omega)] at h
  grind
 ·simp only[gE,bz,not_or,hZ,nI] at h;have k:=e.1 h.1.1.1.1.1;have T:=k.ids;rw[wr (x:=s.iN+1) (by omega) (by omega)] at h;refine (Kx st.dr).bind λr2 g=>?_;rw[bq];refine ⟨λw=>cY λq=>?_,λw=>?_⟩
  ·have:=g.2 (by have:=q.nums.book;omega)
   simp_all
  ·simp only[hZ,nI] at w;have u2:=g.1 w;have W:Qz s st:=⟨by omega,by omega,by omega⟩;rw[bq];refine ⟨λO=>?_,λO=>?_⟩
   ·rw[if_pos trivial];refine cY λq=>?_;have:=q.bm.len
    grind
   ·simp only[bz] at O;refine (OW b).bind λr4 y=>?_;rw[bq];refine ⟨λz=>?_,λz=>?_⟩
    ·rw[if_pos trivial];refine cY λq=>?_
     grind [KF,aS.bm,aS.cr]
    ·simp only[hZ,nI] at z;have R:=y.1 z;refine (Vb b R).bind λr5 A=>?_;rw[bq];refine ⟨λE=>?_,λE=>?_⟩
     ·rw[if_pos trivial];refine cY λq=>?_
      grind [aS.bm,aS.iy]
     ·simp only[hZ,nI] at E;refine (ref_use st.eJ s.aP (by omega)).bind λr6 n=>?_;rw[bq];refine ⟨λu=>?_,λu=>?_⟩
      ·rw[if_pos trivial];refine cY λq=>?_;have:=n.2 ⟨q.use.len,q.use.use⟩;rw[this] at u;have:=q.use.qlen
       simp_all
      ·simp only[gE,HU,ne_eq,not_or,Un,hZ,nI] at u;have P:=n.1 u.1;refine (Kx st.az.am).bind λr7 o=>?_;rw[bq];refine ⟨λG=>cY λq=>?_,λG=>?_⟩
       ·have:=o.2 q.use.nodes
        simp_all
       ·simp only[hZ,nI] at G;have X:=o.1 G;refine xX st.az.aq (λ_ x=>0<=x/\x<=281474976710656) (λi f hi _ v=>?_) (λf σ=>?_) (by omega)
        ·simp only[cS hi,if_true,bY hi,aw,bV (show i<1000000 by omega)];refine (Kx _).bind λr8 p=>?_;rw[bq];refine ⟨λZ=>cY λq=>?_,λZ=>v (p.1 (by simp_all))⟩;have:=p.2 (q.use.stamps _ (bA hi))
         simp_all
        ·simp only[eR,b_,cw];have U:Nh s st:=⟨P.1,P.2,by omega,X,De σ⟩;refine xX st.ah (λi j=>O_ s st j/\Ja st.ah i<j.Id) (λi f hi _ v=>?_) (λf Q=>?_) (by omega)
         ·have hd:decide ((i:Int) > 0)=decide (0<i):=by simp
          have a:=bA hi;simp only[cS hi,if_true,bY hi,aw,bV (show i<1000000 by omega),hd];refine (ref_job k b R a).bind λr9 t=>?_;rw[bq];refine ⟨λK=>cY λq=>?_,λK=>?_⟩
          ·have:=t.2 ⟨q.bm.each _ a,q.waits _ a,(KF k q.bm q.cr).2 _ a⟩
           simp_all
          ·simp only[hZ,nI] at K;have L:=t.1 K;rw[bq];refine ⟨λd=>?_,λd=>?_⟩
           ·simp only[bz] at d;obtain ⟨m,rfl⟩:∃m,i=m+1:=⟨i-1,by omega⟩;rw[wp1 (show m+1<1000000 by omega),bY (show m<st.ah.length by omega),aw,bq];refine ⟨λM=>cY λq=>?_,λM=>v ⟨L,?_⟩⟩
            ·have:=q.bm.bH m hi
             grind
            ·rw[vT (by omega)]
             simp_all
           ·simp only[bz] at d;have:i=0:=by omega
            subst this;refine v ⟨L,?_⟩;have:=L.OC.ok.id
            grind [Ja]
         ·simp only[eR,b_,cw];have N:dz s st:=SI (by omega) λi hi=>⟨(Q i hi).1.OC,(Q i hi).2⟩;have all:∀j∈st.ah,O_ s st j:=λj a=>by
           grind [List.getElem_of_mem]
          exact pY ⟨k,W,N,λj a=>(all j a).waits,Xd k N R λj a=>(all j a).has,(A N).1 E,U⟩
theorem qL{l:List Int}(h:l.length<=1000000):zaY 5000 l=some l:=by unfold zaY;exact Eh h
def Ke{s:aX}(hs:iE s):zc5 5000 s=some s:=by
 have e:=hs.nodes;have g:=hs.parts;have h:=hs.eH;unfold zc5;rw[Hs (by omega),aw,show zcv 5000 s.aG=some s.aG from Eh (by omega),aw];refine bQ.eq (iL s.aG.length (λi x=>x=((i:Int),s.aG)) (λi x f hi a b=>?_) (λx f a=>?_) rfl (by omega))
 ·subst a;have d:=hs.part _ (bA hi);simp only[cS hi,if_true,bY hi,aw,bV (show i<1000000 by omega),qL (show s.aG[i].length<=1000000 by omega),Int.toNat_natCast,yCj]
  simp_all
 ·subst a;simp only[eR,b_,cw];rw[show zbl 5000 s.aq=some s.aq from Eh (by omega),aw];refine iL s.aq.length (λi x=>x=((i:Int),s.aq)) (λi x f hi a b=>?_) (λx f a=>?_) rfl (by omega)
  ·subst a;have d:=hs.queue _ (bA hi);simp only[cS hi,if_true,bY hi,aw,bV (show i<1000000 by omega),qL (show s.aq[i].aP.length<=1000000 by omega),Int.toNat_natCast,yCj];exact b _ (Prod.ext rfl (yCj hi))
  ·subst a;simp only[eR,b_,cw,aY]
def TZ{n:Int}(h:1<=n/\n<=8):pL 5000 n=some (List.replicate n.toNat 0):=by simp only[pL,Wb];rw[if_neg (by grind),if_neg (by simp_all)];simp only[aw,Dl];rw[if_pos (by omega)];rfl
def Vg{n:Int}(h:1<=n/\n<=256):zen 5000 n=some (.inr n):=by
 simp only[zen]
 simp_all
def new_ok{s:aX}(hs:iE s)(k:ba s):fH 5000 s=some (.inr (List.replicate s.aq.length 0,[],s.am,s.aG,s.aq,s.aP,s.ae.fM,s.ae.cu,s.ae.dL,s.ae.br,s.bN,s.Mode,s.ah,s.iN,s.aI,s.bg,s.cV,s.In,s.Out,s.bO,0,1,1,List.replicate s.aP.toNat 0,0,s.ah,s.am)):=by have a:=hs.eH;unfold fH;rw[Bo hs k,aw,if_neg (by simp),Vg k.bm,aw];dsimp only;rw[Fb hs k,aw];dsimp only;rw[Ke hs,aw,TZ k.zY,aw];unfold Dl;rw[if_pos (by omega),aw];rw[yCo]
theorem Dk{j:aJ}(h:j.aE.length<=1000000):jm 5000 j=some j:=by unfold jm;rw[show zax 5000 j.aE=some j.aE from Eh h];rfl
def MV{l:List aJ}(hl:l.length<=300)(b:∀j∈l,j.aE.length<=10):zcS 5000 l=some l:=by
 unfold zcS;rw[show zbJ 5000 l=some l from Eh (by omega),aw];refine bQ.eq (iL l.length (λi x=>x=((i:Int),l)) (λi x f hi a d=>?_) (λx f a=>?_) rfl (by omega))
 ·subst a;have e:=b _ (bA hi);simp only[cS hi,if_true,bY hi,aw,bV (show i<1000000 by omega),Dk (show l[i].aE.length<=1000000 by omega),Int.toNat_natCast,yCj]
  simp_all
 ·subst a;simp only[eR,b_,cw,aY]
def mapA(A:List bW):List (Int×bW):=A.map λa=>(a.bj,a)
def Ai(A:List bW):Prop:=(A.map (·.bj)).Pairwise (·<·)
theorem Yi{A:List bW}(h:Ai A):∀i (hi:i<A.length),dm (mapA A) A[i].bj=some A[i]:=by
 induction A with
 |nil=>simp_all
 |cons a A ih=>
  unfold Ai at h;rw[rS,yBy] at h;intro i hi
  match i,hi with
  |0,hi=>simp[mapA,dm]
  |i + 1, hi=>
   have b:i<A.length:=by simp_all
   have:=h.1 A[i].bj (iX.2 ⟨_,bA b,rfl⟩);have e:dm (mapA (a::A)) A[i].bj=dm (mapA A) A[i].bj:=by
    simp only[mapA,rS,dm]
    grind
   rw[List.getElem_cons_succ,e];exact ih h.2 i b
theorem Hl{A:List bW}{q:Int}(h:∀a∈A,a.bj≠q):dm (mapA A) q=none:=by
 induction A with
 |nil=>rfl
 |cons a A ih=>simp only[mapA,rS,dm];rw[if_neg (h a (qY ..))];exact ih λb hb=>h b (o_ _ hb)
theorem WC{A:List bW}{a:bW}(h:∀b∈A,b.bj≠a.bj):kA (mapA A) a.bj a=mapA (A++[a]):=by
 induction A with
 |nil=>rfl
 |cons b A ih=>
  have:=ih λc d=>h c (o_ _ d);simp only[mapA,JC,rS,kA] at this ⊢
  simp_all
theorem i64wf{n:Int}(h:0<=n/\n<=1048576):(Lit.int .i64 n).wf=true:=by
 have a:IntKind.i64.min=-9223372036854775808:=by decide
 have b:IntKind.i64.max=9223372036854775807:=by decide
 simp only[Lit.wf,bG,bz,a,b];omega
def Iv{A:List bW}(hl:A.length<=300)(h:Ai A)(i:∀a∈A,0<=a.bj/\a.bj<=1048576):zZ (λk=>k) (mapA A)=some (A.map (·.bj)):=by
 have e:(mapA A).map Prod.fst=A.map (·.bj):=by simp[mapA]
 unfold zZ;have b:∀p∈mapA A,(Lit.int .i64 p.1).wf=true:=λp d=>by
  obtain ⟨a,j,rfl⟩:=iX.1 d
  grind [i64wf]
 have f:(A.map (·.bj)).Nodup:=h.imp λh=>by omega
 have g:(mapA A).length<=1000000:=by grind [mapA]
 rw[e,if_pos ⟨g,f,b⟩,List.mergeSort_of_pairwise (h.imp λh=>by grind)];simp
def DJ{A:List bW}(hl:A.length<=300)(h:Ai A)(g:∀a∈A,0<=a.bj/\a.bj<=1048576)(hs:∀a∈A,a.aj.length<=300):aZ 5000 (mapA A)=some A:=by
 unfold aZ;rw[Iv hl h g,aw];refine bQ.eq (iL (A.map (·.bj)).length (λi x=>x=((i:Int),A.take i)) (λi x f hi d j=>?_) (λx f d=>?_) (by simp) (by grind))
 ·subst d;have b:i<A.length:=by simp_all
  have e:=Yi h i b;have k:=hs _ (bA b);simp only[cS hi,if_true,bY hi,aw,bV (show i<1000000 by omega),Wc,e,oel,GK (show A[i].aj.length<=1000000 by omega)]
  grind [ze,List.take_succ_eq_append_getElem]
 ·subst d;simp only[eR,b_,cw,aY,vR,xB]
def Cn{l:List kH}(h:l.length<=1000000):zaU 5000 l=some l:=by unfold zaU;exact Eh h
theorem beq_dep(a:FB):FB.beq a a=true:=by simp[FB.beq]
theorem VP(a:dk):dk.beq a a=true:=by simp[dk.beq]
theorem Xz(a:kH):kH.beq a a=true:=by simp[kH.beq]
theorem Nw(a:aF):aF.beq a a=true:=gZ.2 rfl
def lpT{α:Type}{b:(Int->Option Bool)->Int->Option Bool}(l:List α)(hs:∀(i:Nat)(f:Int->Option Bool)(h:i<l.length),b f (i:Int)=f ((i+1:Nat):Int))(a:∀f,b f (l.length:Int)=some true){N:Nat}(d:l.length<N):bB b N 0=some true:=
 bQ.eq (xX l (λ_ _=>True) (λi f h _ e=>by simp_all) (λf _=>by rw[a];exact ⟨_,rfl,rfl⟩) d)
def vZ(l:List Int)(hl:l.length<=300):zdd 5000 l l=some true:=by
 unfold zdd;rw[if_neg (by simp)];refine lpT l (λi f h=>?_) (λf=>?_) (by omega)
 ·simp only[cS h,if_true,bY h,aw,bV (show i<1000000 by omega),yC1,b_,cw]
 ·simp only[eR,b_,cw]
theorem WM(j:aJ)(hl:j.aE.length<=300):zes 5000 j j=some true:=by
 unfold zes;rw[if_neg (by simp)];refine lpT j.aE (λi f h=>?_) (λf=>?_) (by omega)
 ·simp only[cS h,if_true,bY h,aw,bV (show i<1000000 by omega),beq_dep,Ot,b_,cw]
 ·simp only[eR,b_,cw,yCs,Nw,Bool.and_self]
def HE(l:List aJ)(hl:l.length<=300)(a:∀j∈l,j.aE.length<=10):zev 5000 l l=some true:=by
 unfold zev;rw[if_neg (by simp)];refine lpT l (λi f h=>?_) (λf=>?_) (by omega)
 ·have:=a _ (bA h);simp only[cS h,if_true,bY h,aw,bV (show i<1000000 by omega),WM l[i] (by omega),Ot,b_,cw]
 ·simp only[eR,b_,cw]
theorem Ll(l:List dk)(hl:l.length<=300):zeB 5000 l l=some true:=by
 unfold zeB;rw[if_neg (by simp)];refine lpT l (λi f h=>?_) (λf=>?_) (by omega)
 ·simp only[cS h,if_true,bY h,aw,bV (show i<1000000 by omega),VP,Ot,b_,cw]
 ·simp only[eR,b_,cw]
def B_(l:List bW)(hl:l.length<=300)(b:∀a∈l,a.aj.length<=300):zex 5000 l l=some true:=by
 unfold zex;rw[if_neg (by simp)];refine lpT l (λi f h=>?_) (λf=>?_) (by omega)
 ·have:=b _ (bA h);simp only[eE,cS h,if_true,bY h,aw,bV (show i<1000000 by omega),yC1,Nw,Ll l[i].aj this,Ot,b_,cw]
 ·simp only[eR,b_,cw]
def DD(l:List kH)(hl:l.length<=300):zey 5000 l l=some true:=by
 unfold zey;rw[if_neg (by simp)];refine lpT l (λi f h=>?_) (λf=>?_) (by omega)
 ·simp only[cS h,if_true,bY h,aw,bV (show i<1000000 by omega),Xz,Ot,b_,cw]
 ·simp only[eR,b_,cw]
def Rj{s:aX}{st:bZ}(a:kF s st):zbQ 5000 st st=some true:=by have b:=a.bm;have d:=a.use;have e:=a.stamps;have f:=a.cF;unfold zbQ;rw[if_pos (by simp),HE _ (by omega) a.after,aw,if_pos rfl,B_ _ a.cr a.sh,aw,if_pos rfl,DD _ (by omega),aw,if_pos rfl,vZ _ (by omega),aw,if_pos rfl,vZ _ (by omega),aw];simp
def Mc{l:List aJ}(h:bU l)(n:Nat):bU (l.take n):=λi hi=>by rw[BZ] at hi;rw[Rk,Rk];exact h i (by omega)
def YJ{l:List aJ}(hl:l.length<=300)(hs:bU l){id:Int}(h:∀j∈l,j.Id<id):zaM 5000 l id=some ((l.length:Int),false):=by
 unfold zaM;have e:(bB (λb (a:Int×Int)=>
   if (decide (a.1<a.2))=true then
    (
     (aD l (i64.wrap (Int.fdiv (u64.wrap (i64.wrap (a.1+a.2))) (2 ^ 1)))).bind λd=>
     some (decide (d.Id≥id))).bind λg=>
    if (!g)=true then
     b ((i64.wrap ((i64.wrap (Int.fdiv (u64.wrap (i64.wrap (a.1+a.2))) (2 ^ 1)))+1)),a.2)
    else
     b (a.1,(i64.wrap (Int.fdiv (u64.wrap (i64.wrap (a.1+a.2))) (2 ^ 1))))
   else
    some a.1) 5000 (0,(l.length:Int)))=some (l.length:Int):=by
  refine bQ.eq (half hl hs id (λj=>some (decide (j.Id<id))) (λj k=>rfl) (λi=>some i) (λi hi m n=>?_) _ (λf x=>?_))
  ·rw[aY];rcases VX hi with q | q
   ·grind
   ·rw[q]
  grind
 simp_all
theorem put_ok{l:List aJ}{n:Nat}(hn:n<l.length)(hl:l.length<=300)(hs:bU l){m:Int}(hm:(l.length:Int)<=m)(a:dh l[n]):zbY 5000 (l.take n) l[n] m=some (l.take (n+1),0):=by
 obtain ⟨r,e,h⟩:=BN l[n];have b:=h.2 a;subst b;have d:=a.kI;have f:(l.take n).length=n:=by grind
 unfold zbY;rw[e,aw,if_neg (by simp),YJ (by omega) (Mc hs n) (λj a=>?_),aw]
 ·rw[if_neg (by simp),if_neg (by grind),Dk (by omega),aw];unfold zbq;have sl:slice? (l.take n) ((l.take n).length:Int) ((l.take n).length:Int)=some []:=by
   unfold slice?
   simp_all
  rw[sl,aw,if_neg (by simp),if_pos (by simp),ze (by grind),aw,aw,Hw hn]
 ·obtain ⟨i,hi,rfl⟩:=iM a;rw[Rk];exact hs.lt (by omega) hn
def cq(F:List aF)(l:List bW):List aF:=l.foldl kT F
structure TInv (s:aX) (st:bZ) (i:Nat) (x:Int×(List aF)×List (Int×bW)):Prop where
 ix:x.1=(i:Int)
 h:∃H,eS s st H (st.ai.drop i) x.2.1
 len:x.2.1.length=s.am.length
 Yx:∀r∈x.2.1,aN r
 m:x.2.2=mapA (st.ai.take i)
 fr:x.2.1=cq s.am (st.ai.take i)
def AZ{s:aX}{st:bZ}(q:aS s st):Ai st.ai:=by have h:=(od q.cr q.spec.nodes.ok).1;unfold Ai;rw[h];exact JZ q.bm
def HZ{s:aX}{st:bZ}(q:aS s st):∀a∈st.ai,0<=a.bj/\a.bj<=1048576:=λa b=>by
 obtain ⟨j,d,P⟩:=q.cr.mem a b;have:=(q.bm.each j d).ok.id
 grind [fj.Fx]
def of_ok{s:aX}{st:bZ}(d:kF s st)(q:aS s st):dE 5000 s st=some (.inr (st.az.aq,st.ah,(st.ai.map λa=>(a.bj,a)),s.am,s.aG,s.aq,s.aP,s.ae.fM,s.ae.cu,s.ae.dL,s.ae.br,s.bN,s.Mode,s.ah,s.iN,s.aI,s.bg,s.cV,s.In,s.Out,s.bO,st.aO,st.Next,st.dr,st.aA,st.eJ,st.az.am,s.ah,cq s.am st.ai)):=by
 have hl:=d.bm;have R:=d.cr;have hn:=d.spec.nodes;have hb:=d.cF;have X:=d.use;have hs:=d.stamps;obtain ⟨r,e,h⟩:=KR d;have k:=h.2 q;subst k;have S:=q.bm.len;have y:=AZ q;unfold dE;rw[e,aw,if_neg (by simp),new_ok d.spec q.spec,aw];dsimp only;refine bQ.eq ?_;refine iL st.ah.length (λi x=>x=((i:Int),st.ah.take i)) (λi x f hi g k=>?_) (λx f g=>?_) rfl (by omega)
 ·subst g;simp only[cS hi,if_true,bY hi,aw,bV (show i<1000000 by omega),put_ok hi hl q.bm.bH S (q.bm.each _ (bA hi)).ok,yC1,b_,cw]
  simp_all
 ·subst g;simp only[eR,b_,cw];refine iL st.ai.length (TInv s st) (λi x f hi g k=>?_) (λx f g=>?_) ⟨rfl,⟨_,by rw[yC2];exact q.cr⟩,rfl,q.spec.nodes.ok,rfl,rfl⟩ (by omega)
  ·obtain ⟨U,F,M⟩:=x;obtain ⟨n,p,t,u,v,w⟩:=g;dsimp only at n p t u v w;subst n;have N:=bA hi;have A:=d.sh _ N;obtain ⟨H,E⟩:=p;rw[yB9 hi] at E;obtain ⟨j,W,P⟩:=q.cr.mem _ N;have G:=(q.bm.each j W).ok;have K:uJ F st.ai[i]/\∃O,eS s st O (st.ai.drop (i+1)) (kT F st.ai[i]):=by
    cases H with
    |nil=>cases (show st.ai[i]::st.ai.drop (i+1)=[] from E)
    |cons σ O=>
     obtain ⟨Z,A',e',-,hf,k⟩:=E
     grind
   have Q:∀b∈st.ai.take i,b.bj≠st.ai[i].bj:=λb hb=>by
    obtain ⟨m,L,rfl⟩:=iM hb;rw[BZ] at L;rw[Rk];have:=yBg.1 y m i (by grind) (by simp_all) (by omega)
    grind
   have T:ut M F st.ai[i]:=⟨by have:=G.id;have:=P.Fx;omega,Tq (by have:=G.many;have:=P.kM.Us;omega),by rw[t];exact P.kM.shares,by rw[P.need];exact G.need,by grind [Hl],K.1⟩;simp only[cS hi,if_true,bY hi,aw,bV (show i<1000000 by omega)];refine (Jt (M:=M) (a:=st.ai[i]) (F:=F) (by omega) A u).bind λr o=>?_;have z:=o.1.2 T;obtain ⟨eM,bh⟩:=o.2 z;rw[z];simp only[yC1,b_,cw];refine k _ ⟨rfl,?_,?_,?_,?_,?_⟩
   ·grind [rH.eq]
   ·grind [rH.eq,zeM]
   ·grind [rH.eq,vr]
   ·grind [WC,List.take_succ_eq_append_getElem]
   grind [rH.eq,List.take_succ_eq_append_getElem,cq.eq_1]
  ·obtain ⟨U,F,M⟩:=x;obtain ⟨n,p,t,u,v,w⟩:=g;dsimp only at n p t u v w;subst n;simp only[eR,b_,cw];rw[show zba 5000 st.aA=some st.aA from Eh (by omega),aw,show zbp 5000 st.eJ=some st.eJ from Eh (by omega),aw,show zbp 5000 st.az.aq=some st.az.aq from Eh (by omega),aw,aY];rw[v,w,xB,xB];rfl
theorem of_no{s:aX}{st:bZ}(a:kF s st)(q:¬aS s st):dE 5000 s st=some (.inl 2):=by
 obtain ⟨r,e,h⟩:=KR a;have:r=false:=by simp_all
 grind [Go.Abs.dE]
def shown{s:aX}{st:bZ}(b:kF s st)(q:aS s st) :
  Tg 5000 st.az.aq st.ah (st.ai.map λa=>(a.bj,a)) st.aO st.Next st.dr st.aA st.eJ st.az.am=some st:=by
 have hl:=b.bm;have hb:=b.cF;have d:=b.use;have hs:=b.stamps;unfold Tg;rw[MV (by omega) b.after,aw,show aZ 5000 (st.ai.map λa=>(a.bj,a))=some st.ai from DJ b.cr (AZ q) (HZ q) b.sh,aw,Cn (by omega),aw,qL (by omega),aw,show zb4 5000 st.az.aq=some st.az.aq from Eh (by omega),aw]
def VJ{s:aX}{st:bZ}(b:kF s st)(q:aS s st):cn 5000 s st=some (.inr (st.az.aq,st.ah,(st.ai.map λa=>(a.bj,a)),true,s.am,s.aG,s.aq,s.aP,s.ae.fM,s.ae.cu,s.ae.dL,s.ae.br,s.bN,s.Mode,s.ah,s.iN,s.aI,s.bg,s.cV,s.In,s.Out,s.bO,st.aO,st.Next,st.dr,st.aA,st.eJ,st.az.am,s.ah,cq s.am st.ai)):=by obtain ⟨r,d,h⟩:=H_ b;have e:=h.2 q;subst e;unfold cn;rw[of_ok b q,aw];dsimp only;rw[d,aw,if_neg (by simp),shown b q,aw,Rj b,aw]
theorem TL{s:aX}{st:bZ}(a:kF s st)(q:¬aS s st):cn 5000 s st=some (.inl true):=by
 obtain ⟨r,b,h⟩:=H_ a;have:r=false:=by simp_all
 grind [Go.Abs.cn,of_no]
theorem jt{s:aX}(hs:iE s) :
  zaN 5000 s.am s.aG s.aq s.aP s.ae.fM s.ae.cu s.ae.dL s.ae.br s.bN s.Mode s.ah s.iN s.aI s.bg s.cV s.In s.Out s.bO=some s:=by
 unfold zaN;rw[show zc5 5000 _=some s from Ke hs];rfl
theorem vW{l:List Int}{n:Int}(h:mC l n):(l.length:Int)<=n\/l=[]:=by
 have a:∀i,i<l.length->(i:Int)<=l[i]!:=by
  intro i;induction i with
  |zero=>
   intro hi;have:=(h 0 hi).1
   grind [KN]
  |succ i ih=>
   intro hi;have b:=ih (by omega);have d:=(h (i+1) hi).1
   grind [pA]
 cases hl:l.length with
 |zero=>simp_all
 |succ m=>
  left;have b:=a m (by omega);have d:=(h m (by omega)).2
  grind
def kl{s:aX}(k:ba s):iE s:={
 nodes:=by have:=k.nodes.hi;omega
 parts:=by have:=k.parts.hi;omega
 eH:=by have:=k.eH.hi;omega
 part:=λp a=>by
  have b:=vW (k.parts.ok p a).2;have:=k.nodes.hi
  grind
 queue:=λq hq=>by
  have b:=vW (k.eH.ok q hq).zY;have:=k.zY
  grind }
def ru{l:List dk}{n:Int}(h:bo l n)(hn:0<=n):(l.length:Int)<=n:=by
 rcases vW h.node with a | a
 ·simp_all
 simp_all
def RL{s:aX}{st:bZ}(q:aS s st):kF s st:={
 spec:=kl q.spec
 bm:=by have:=q.bm.len;have:=q.spec.bm;omega
 after:=λj b=>by have:=(q.bm.each j b).ok.kI;omega
 cr:=by have h:=(od q.cr q.spec.nodes.ok).1;have d:=Ig List.length h;simp only[vR] at d;have f:(st.ah.filter tj).length<=st.ah.length:=yBF _ _;have:=q.bm.len;have:=q.spec.bm;omega
 cF:=by have:=q.iy.cF.len;omega
 use:=by have:=q.use.len;have:=q.spec.zY;omega
 stamps:=by have:=q.use.qlen;have:=q.spec.eH.hi;omega
 shares:=λa e=>by obtain ⟨j,b,P⟩:=q.cr.mem a e;have g:=ru P.kM.shares (by omega);have:=q.spec.nodes.hi;omega }
def TR{u:EG}{k t a:Int}(h:a<=t)(b:¬(a<u.bT/\u.bT<=t))(d:¬(a<u.To/\u.To<=t)):ko u k t=ko u k a:=by
 unfold ko
 grind
def IH{L:List EG}{k t a:Int}(h:∀u∈L,ko u k t=ko u k a):bn L k t=bn L k a:=by
 unfold bn;have:∀(M:List EG)(r:aF),(∀u∈M,ko u k t=ko u k a)->M.foldl (λr u=>BA r (ko u k t)) r=M.foldl (λr u=>BA r (ko u k a)) r:=by
  intro M;induction M with
  |nil=>simp_all
  |cons u M ih=>simp_all
 simp_all
def Cd{q:jS}{k t a:Int}(f:q.aO<=a)(h:a<=t)(d:∀x,q.aO<=x->timeV q x->¬(a<x/\x<=t)):bC q k t=bC q k a:=by
 have i:bn q.L k t=bn q.L k a:=IH λu e=>TR h (λg=>d u.bT (by omega) (.inr (.inl ⟨u,e,.inl rfl⟩)) g) λg=>d u.To (by omega) (.inr (.inl ⟨u,e,.inr rfl⟩)) g;have j:Fw q.aA k t↔Fw q.aA k a:=by
  constructor
  ·rintro ⟨b,hb,h1,h2,h3⟩;refine ⟨b,hb,h1,?_,by omega⟩;rcases yC6 a b.bT with g | g
   ·exact absurd ⟨g,h2⟩ (d b.bT (by omega) (.inr (.inr ⟨b,hb,.inl rfl⟩)))
   omega
  ·rintro ⟨b,hb,h1,h2,h3⟩;refine ⟨b,hb,h1,by omega,?_⟩;rcases yC6 t b.To with g | g
   ·exact g
   ·exact absurd ⟨h3,g⟩ (d b.To (by omega) (.inr (.inr ⟨b,hb,.inr rfl⟩)))
 unfold bC
 grind
theorem Bn(T:List Int){a t:Int}(h:a<=t):∃x,(x=a\/x∈T)/\a<=x/\x<=t/\∀y∈T,y<=t->y<=x:=by
 induction T with
 |nil=>simp_all
 |cons y T ih=>grind
structure GP (q:jS) (a b:Int) (F:List aF):Prop where
 len:F.length=q.S.am.length
 low:∀(k:Nat)(h:k<F.length),Pw (λt v=>v=bC q k t) a b F[k]
structure fX (q:jS) (w:CJ):Prop where
 part:0<=w.Part/\w.Part<q.S.aG.length
 many:w.aL<=100000
 need:aN w.ay
 rZ:w.ay≠bK
 wall:1<=w.aR/\w.aR<=65536
def cz(q:jS)(w:CJ):List Int:=(q.S.aG[w.Part.toNat]?).getD []
def km{q:jS}{w:CJ}(h:fX q w):aD q.S.aG w.Part=some (cz q w)/\cz q w∈q.S.aG:=by
 obtain ⟨a,e⟩:=AV h.part.1 h.part.2;have:cz q w=q.S.aG[w.Part.toNat]:=by grind [cz]
 simp_all
def YD(q:jS):Prop:=∀(k t:Int),0<=k->k<q.S.am.length->q.aO<=t->aN (bC q k t)
def Jv{V:Int->aF->Prop}{a b:Int}{r:aF}(h:Pw V a b r)(d:∀t v,a<=t->V t v->aN v):aN r:=v_.2 λc=>by
 obtain ⟨t,v,f,g,i,e⟩:=h.cN c
 grind [v_]
theorem zM{F:List aF}{k:Nat}(h:k<F.length):jj F (k:Int)=F[k]:=by grind [jj]
def IB{q:jS}(hq:qd q){w:CJ}(b:fX q w){F:List aF}(hl:F.length=q.S.am.length)(d:∀n∈cz q w,aN (jj F n)):po F (cz q w):=by obtain ⟨_,a⟩:=km b;have e:=hq.spec.parts.ok _ a;have hs:=(kl hq.spec).part _ a;refine ⟨by omega,λn hn=>?_,d⟩;have:=e.2.mem n hn;omega
def pf_when{q:jS}(hq:qd q)(O:YD q){w:CJ}(b:fX q w){t:Int}(h0:q.aO<=t)(ht:t<=1099511627776) :
  bQ (Wf 5000 q w t) λr=>∃F,GP q t (t+w.aR) F/\r=BW F (cz q w) w.aL w.ay:=by
 have nn:=hq.spec.nodes.hi;have P:=hq.now;have wl:=b.wall;unfold Wf;rw[if_neg (by have:=b.part;simp_all),wr (x:=t+w.aR) (by omega) (by omega)];refine (KY hq).bind λT A=>?_;have tl:=A.len;refine iL q.S.am.length (λi x=>x.1=(i:Int)/\x.2.length=i/\∀(k:Nat)(h:k<x.2.length),Pw (λt v=>v=bC q k t) t (t+w.aR) x.2[k]) (λi x f hi a Q=>?_) (λx f a=>?_) ⟨rfl,rfl,λk h=>by simp at h⟩ (by omega)
 ·obtain ⟨y,F⟩:=x;obtain ⟨rfl,d,m⟩:=a;dsimp only at d m ⊢;rw[if_pos (cS hi)];refine (Sb hq hi (by omega)).bind λr e=>?_;rw[e];refine iL T.length (λj x=>∃v:aF,x=((j:Int),v.bI,v.Mem,v.bM,v.bR)/\Gu (bC q i t::((T.take j).filter λy=>decide (t<y/\y<t+w.aR)).map (bC q i)) v) (λj x R p a E=>?_) (λx R a=>?_) ⟨bC q i t,rfl,Gu.one _⟩ (by omega)
  ·obtain ⟨v,rfl,o⟩:=a;simp only[eE];rw[if_pos (cS p)];simp only[bY p,aw];rw[bV (show j<1000000 by omega)];have N:(T.take (j+1)).filter (λy=>decide (t<y/\y<t+w.aR))=(T.take j).filter (λy=>decide (t<y/\y<t+w.aR))++(if t<T[j]/\T[j]<t+w.aR then [T[j]] else []):=by
    rw[Hw p,List.filter_append]
    grind
   have tm:=(A.mem T[j]).1 (bA p);by_cases g:t<T[j]
   ·rw[if_pos (by simp_all)];by_cases S:T[j]<t+w.aR
    ·rw[if_pos (by simp_all)];refine (Sb hq hi (t:=T[j]) (by omega)).bind λs U=>?_;have G:zdU 5000 ({ bI:=v.bI,Mem:=v.Mem,bM:=v.bM,bR:=v.bR }:aF) s.1=some (uN v s.1):=Xn v s.1;rw[G,aw];rw[if_pos ⟨g,S⟩] at N;refine E _ ⟨uN v s.1,rfl,?_⟩;rw[N,yBX,<-JC,U];exact o.add _
    grind
   grind
  ·obtain ⟨v,rfl,o⟩:=a;dsimp only;rw[if_neg (by simp)];rw[xB] at o;have G:cB F ([({ bI:=v.bI,Mem:=v.Mem,bM:=v.bM,bR:=v.bR }:aF)]:List aF)=some (F++[v]):=ze (by grind);rw[G,aw,bV (show i<1000000 by omega)];have low:Pw (λt v=>v=bC q i t) t (t+w.aR) v:=by
    refine ⟨λu x W h2 e c=>?_,λc=>?_⟩
    ·obtain ⟨z,z1,z2,X,σ⟩:=Bn T W;have Z:bC q i u=bC q i z:=Cd (by omega) X λy K L M=>by
      have:=σ y ((A.mem y).2 ⟨K,L⟩) M.2;omega
     rw[e,Z];refine o.le _ ?_ c
     grind
    ·obtain ⟨x,a,e⟩:=o.cN c
     grind
   grind
 ·obtain ⟨y,F⟩:=x;obtain ⟨rfl,d,m⟩:=a;dsimp only at d m ⊢;obtain ⟨ep,hm⟩:=km b;have hP:po F (cz q w):=IB hq b d λn hn=>by
   have kp:=(hq.spec.parts.ok _ hm).2.mem n hn;have e:jj F n=F[n.toNat]:=(uI kp.1 (by omega)).2.2;rw[e];exact Jv (m n.toNat (by omega)) λu x hu a=>by rw[a];exact O _ u (by omega) (by omega) (by omega)
  rw[if_neg (by simp),ep,aw,WU hP b.need b.rZ b.many,aw,aY];exact ⟨F,⟨d,m⟩,rfl⟩
structure PR (nodes:List (List bS)) (q:jS) (L:Nat):Prop where
 len:nodes.length=q.S.am.length
 cN:Di nodes q.aO L
 val:∀(k:Nat)(h:k<nodes.length)(t:Int),q.aO<=t->yL nodes[k] t (bC q k t)
def PR.right{i:List (List bS)}{q:jS}{L:Nat}(h:PR i q L):YD q:=λk t s hk o=>by
 have j:k.toNat<i.length:=by grind [PR.len]
 have:=(h.val k.toNat j t o).ok (h.cN.each _ j).1
 grind
def PR.iff{i:List (List bS)}{q:jS}{L:Nat}(h:PR i q L){k:Nat}(hk:k<i.length){t:Int}(j:q.aO<=t){v:aF}:yL i[k] t v↔v=bC q k t:=
 ⟨λo=>o.By (h.cN.each k hk).1 (h.val k hk t j),λe=>by rw[e];exact h.val k hk t j⟩
def JW{b:List (List bS)}{q:jS}{L:Nat}(R:L<=900)(hq:qd q)(j:PR b q L){w:CJ}(e:fX q w){t:Int}(S:q.aO<=t)(T:t<=1099511627776) :
  bQ (zaH 5000 b w.Part w.aL w.ay w.aR t q.aO q.S.aG) λr=>∃F,F.length=q.S.am.length/\(∀n∈cz q w,Pw (λu v=>v=bC q n u) t (t+w.aR) (jj F n))/\r=BW F (cz q w) w.aL w.ay:=by
 have nn:=hq.spec.nodes.hi;have M:=hq.now;have U:=e.wall;obtain ⟨N,E⟩:=km e;have s:=hq.spec.parts.ok _ E;have pl:=(kl hq.spec).part _ E;have O:=j.right;unfold zaH;rw[if_neg (by have:=e.part;simp_all),wr (x:=t+w.aR) (by omega) (by omega),Zh _ (by grind [PR.len]),yA,N,yA];have G:=j.len;refine iL (cz q w).length (λi x=>x.1=(i:Int)/\x.2.length=b.length/\∀n∈(cz q w).take i,Pw (λu v=>v=bC q n u) t (t+w.aR) (jj x.2 n)) (λi x f hi m z=>?_) (λx f m=>?_) ⟨rfl,by simp,λn h=>by simp at h⟩ (by omega)
 ·obtain ⟨y,F⟩:=x;obtain ⟨rfl,p,o⟩:=m;dsimp only at p o ⊢;have hn:=s.2.mem _ (bA hi);obtain ⟨k,P⟩:∃k:Nat,(cz q w)[i]=(k:Int):=⟨((cz q w)[i]).toNat,by omega⟩;have hk:k<b.length:=by omega
  obtain ⟨K,lk⟩:=j.cN.each k hk;have f0:=j.cN.first k hk K.ne;rw[if_pos (cS hi),bY hi,aw,P,bY hk,aw];refine (Ld (by omega) K (a:=t) (by omega) (show t<t+w.aR by omega)).bind λr A=>?_;rw[bY (show k<F.length by omega),aw,bV (show i<1000000 by omega),yCo];refine z _ ⟨rfl,by simp[p],λn d=>?_⟩;have low:Pw (λu v=>v=bC q k u) t (t+w.aR) r:=A.iff λu v Q=>j.iff hk (by omega);dsimp only;by_cases g:n=(k:Int)
  ·grind [zM]
  ·have:jj (F.set k r) n=jj F n\/n<0:=by
    grind [jj]
   rw[Hw hi,kL,zV] at d;rcases d with d | d
   ·have nb:=s.2.mem n (Mx d)
    grind
   omega
 ·obtain ⟨y,F⟩:=x;obtain ⟨rfl,p,o⟩:=m;dsimp only at p o ⊢;rw[xB] at o;have hP:po F (cz q w):=IB hq e (by omega) λn hn=>by
   have nb:=s.2.mem n hn;exact Jv (o n hn) λu x Q m=>by rw[m];exact O n u (by omega) (by omega) (by omega)
  rw[if_neg (by simp),aw,place_ok hP e.need e.rZ e.many,aw,aY]
  grind
def AG{a:List (List bS)}{q:jS}{L:Nat}(s:L<=900)(hq:qd q)(g:PR a q L){w:CJ}(d:fX q w){t:Int}(h:q.aO<=t)(i:t<=1099511627776) :
  ∃F,GP q t (t+w.aR) F/\po F (cz q w)/\zaH 5000 a w.Part w.aL w.ay w.aR t q.aO q.S.aG=some (BW F (cz q w) w.aL w.ay)/\Wf 5000 q w t=some (BW F (cz q w) w.aL w.ay):=by
 have j:=g.right;have v:=hq.now;obtain ⟨r,e,F,f,rfl⟩:=pf_when hq j d h i;obtain ⟨K,k,G,M,b,rfl⟩:=JW s hq g d h i;obtain ⟨N,y⟩:=km d;have m:=hq.spec.parts.ok _ y;have o:∀n∈cz q w,jj G n=jj F n:=λn hn=>by have nb:=m.2.mem n hn;obtain ⟨z,_,A⟩:=uI (F:=F) nb.1 (by grind [GP.len]);have p:=f.low n.toNat z;rw[yCt nb.1] at p;rw[A];exact (b n hn).By p
 rw[Kd o] at k;refine ⟨F,f,IB hq d f.len λn hn=>?_,k,e⟩;have nb:=m.2.mem n hn;rw[<-o n hn];exact Jv (b n hn) λu x O E=>by rw[E];exact j n u (by omega) (by omega) (by omega)
end Go.Plain
end
