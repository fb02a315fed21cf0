/- TyL4, TyL5, TyP8, TyP9, TyPA, TyL6, TyPB, TyPC, TyPD, TyS1, TyL7 -/
import Derived.Test.YtcndmfkgdaipaaaGreatLawA
set_option linter.all false
open Go.IntKind (i64 u64)
section
namespace Go.Plain
open Go.Abs
theorem Zo{α:Type}(z:α){n:Nat}(h:n<=1000000):Cs z (n:Int) (n:Int)=some (List.replicate n z):=by
 unfold Cs
 grind
theorem Vn(v:aC)(need:aC):fG v (mulR 0 need)=v:=dY λc=>by rw[Aq,Bf];omega
theorem HM(v a b:aC):fG (fG v a) b=fG v (BP a b):=dY λc=>by simp only[Aq,wu];omega
theorem Pg.none{l:List bO}(hs:dP l)(a b:Int)(need:aC):Pg l a b (mulR 0 need) l:=
 ⟨hs,by omega,λ_ _=>rfl,λt v h=>by rw[Vn,ite_self];exact h⟩
structure Du (nodes:List (List bO)) (now:Int) (L:Nat):Prop where
 each:∀k (h:k<nodes.length),dP nodes[k]/\nodes[k].length<=L
 first:∀k (h:k<nodes.length) (h':0<nodes[k].length),nodes[k][0].At=now
theorem zR{l:List cU}{n:Int}(h:∀y∈l,y.Node≠n):dw l n=0:=by
 induction l with
 |nil=>simp[dw]
 |cons y l ih=>
  have a:=ih λz hz=>h z (lI _ hz);simp only[dw,ru,List.sum_cons] at a ⊢
  simp_all
theorem BU{l:List cU}{n:Int}(h:bn l n){i j:Nat}(a:i<j)(b:j<l.length):l[i].Node<l[j].Node:=by
 induction j with
 |zero=>omega
 |succ j ih=>
  have s:=(h (j+1) b).up
  grind [rD]
theorem J_{l:List cU}{n:Int}(h:bn l n){i:Nat}(d:i<l.length):dw l l[i].Node=l[i].aK:=by
 have e:=Di (l:=l.take (i+1)) (m:=l.drop (i+1)) l[i].Node;have f:dw (l.take i) l[i].Node=0:=zR λy a=>by obtain ⟨j,b,rfl⟩:=KX.1 a;rw[BY] at b;rw[Po];have:=BU h (show j<i by omega) d;omega
 have g:dw (l.drop (i+1)) l[i].Node=0:=zR λy a=>by obtain ⟨j,b,rfl⟩:=KX.1 a;rw[yBN] at b;rw[yBW];have:=BU h (show i<i+1+j by omega) (by omega);omega
 rw[Lw,nJ d,f,g,if_pos rfl] at e;omega
theorem Ra{l:List cU}{n:Int}(h:bn l n){i:Nat}(a:i<l.length):dw (l.take i) l[i].Node=0:=zR λy b=>by obtain ⟨j,d,rfl⟩:=KX.1 b;rw[BY] at d;rw[Po];have:=BU h (show j<i by omega) a;omega
theorem CA{d:List (List bO)}{m:Int}{L:Nat}(hL:L<=900)(E:Du d m L)(hn:d.length<=40){a b:Int}{l:List cU}{need:aC}(w:bn l d.length)(X:l.length<=300)(O:aM need)
  (h0:m<=a) (n:a<b) (y:b<=281474976710656) (o:∀k (h:k<d.length) t v,a<=t->t<b->yE d[k] t v->jU (mulR (dw l k) need) v) :
  bQ (zbc 5000 d a b l need) λr=>r.2=0/\r.1.length=d.length/\∀k (h:k<d.length) (P:k<r.1.length),Pg d[k] a b (mulR (dw l k) need) r.1[k]:=by
 unfold zbc;rw[Zo _ (by omega),aD];have node:∀i (e:i<l.length),∃k:Nat,l[i].Node=(k:Int)/\k<d.length:=λi e=>by obtain ⟨Q,Y,_⟩:=w.mem _ (bG e);exact ⟨l[i].Node.toNat,by omega,by omega⟩
 refine iS l.length (λi x=>∃T:List (List bO),x=((i:Int),T)/\T.length=l.length/\∀j (hj:j<l.length) (R:j<T.length) (k:Nat) (hk:k<d.length),j<i->l[j].Node=(k:Int)->Pg d[k] a b (mulR l[j].aK need) T[j]) (λi x f e g S=>?_) (λx f g=>?_)
  ⟨_,rfl,List.length_replicate ..,λj _ _ _ _ h=>by omega⟩ (by omega)
 ·obtain ⟨T,rfl,R,Z⟩:=g;obtain ⟨k,p,hk⟩:=node i e;have sh:=w.mem _ (bG e);dsimp only;rw[if_pos (cS e),bZ e,aD];have G:dw l k=l[i].aK:=by grind [J_]
  have fk:=o k hk;rw[G] at fk;obtain ⟨A,lk⟩:=E.each k hk;have f0:=E.first k hk A.ne;have U:aM (mulR l[i].aK need):=by obtain ⟨v,s⟩:=yE.ex A (t:=a) (by omega);have:=fk a v (Jz _) n s;refine vC.2 λc=>?_;have Q:=this c;have Y:=vC.1 (s.ok A) c;have h3:=vC.1 O c;rw[Bf] at Q ⊢;have:=yBO (show 0<=l[i].aK by omega) h3.1;omega
  refine (Mx O ⟨sh.2.2.1,sh.2.2.2⟩).bind λr u=>?_;have z:=u.1.2 U;rw[if_neg (by simp[z]),u.2 z,p,bZ hk,aD];refine (yc (by omega) A U (by omega) n y fk).bind λr2 aa=>?_;rw[bZ (show i<T.length by omega),aD,if_neg (by simp_all),bU (show i<1000000 by omega),xAc]
  grind
 ·obtain ⟨T,rfl,R,Z⟩:=g;dsimp only;rw[if_neg (by simp)];refine iS l.length (λi x=>∃M:List (List bO),x=((i:Int),M)/\M.length=d.length/\∀k (h:k<d.length) (P:k<M.length),Pg d[k] a b (mulR (dw (l.take i) k) need) M[k]/\(dw (l.take i) k=0->M[k]=d[k])) (λi x f e g S=>?_) (λx f g=>?_)
   ⟨_,rfl,rfl,λk h _=>⟨by simpa[dw] using Pg.none (E.each k h).1 a b need,λ_=>rfl⟩⟩ (by omega)
  ·obtain ⟨M,rfl,W,hB⟩:=g;obtain ⟨k,p,hk⟩:=node i e;dsimp only;rw[if_pos (cS e),bZ e,aD,bZ (show i<T.length by omega),aD,p,bZ (show k<M.length by omega),aD,bU (show i<1000000 by omega),xAc];refine S _ ⟨_,rfl,by simp[W],λK h P=>?_⟩;have y:=Ra w e;rw[p] at y;by_cases q:k=K
   ·subst q;have N:(M.set k T[i])[k]=T[i]:=yB7 _;rw[nJ e,y,if_pos p,Int.zero_add,N];have sh:=w.mem _ (bG e)
    grind
   ·have N:(M.set k T[i])[K]=M[K]'(by omega):=yB0 q _;rw[nJ e,if_neg (by omega),Int.add_zero,N]
    simp_all
  ·obtain ⟨M,rfl,W,hB⟩:=g;dsimp only;rw[if_neg (by simp),a_]
   simp_all
end Go.Plain
end
section
namespace Go.Plain
open Go.Abs
def ee(F:List aC)(n:Int):aC:=(F[n.toNat]?).getD bR
def cO(F:List aC)(l:List Int)(need:aC):Int:=(l.map λn=>cG (ee F n) need).sum
def zw(left c:Int):Int:=if left<c then left else c
def Gg(F:List aC)(need:aC)(x:Int×List cU)(n:Int):Int×List cU:=
 if zw x.1 (cG (ee F n) need)=0 then x else (x.1-zw x.1 (cG (ee F n) need),x.2++[{ Node:=n,aK:=zw x.1 (cG (ee F n) need) }])
def qR(F:List aC)(need:aC)(l:List Int)(many:Int):Int×List cU:=l.foldl (Gg F need) (many,[])
def wh(F:List aC)(l:List Int)(many:Int)(need:aC):List cU×Bool:=if many<1∨cO F l need<many then ([],false) else ((qR F need l many).2,true)
theorem pO{F:List aC}{n:Int}(b:0<=n)(h:n<F.length):∃a:n.toNat<F.length,aB F n=some (ee F n)/\ee F n=F[n.toNat]'a:=by grind [Gm,ee]
structure ib (F:List aC) (l:List Int):Prop where
 yg:l.length<=300
 node:∀n∈l,0<=n/\n<F.length
 Tl:∀n∈l,aM (ee F n)
section
variable{F:List aC}{l:List Int}{need:aC}(hP:ib F l)(hn:aM need)(hz:need≠bR)
include hP hn
theorem lF{n:Int}(h:n∈l):0<=cG (ee F n) need/\cG (ee F n) need<=64:=Qn (hP.Tl n h) hn
theorem Xh:0<=cO F l need/\cO F l need<=64 * l.length:=by
 have:∀(m:List Int),(∀x∈m,x∈l)->0<=cO F m need/\cO F m need<=64 * m.length:=by
  intro m;induction m with
  |nil=>grind [cO]
  |cons x m ih=>
   intro h;have b:=ih λy a=>h y (lI _ a);have:=lF hP hn (h x (ql ..))
   grind [cO]
 simp_all
include hz
theorem WR{n:Int}(h:n∈l):qE 5000 F n need=some (cG (ee F n) need):=by have a:=hP.node n h;obtain ⟨_,e,_⟩:=pO a.1 a.2;unfold qE;rw[if_neg (by simp_all),e,aD,count (hP.Tl n h) hn hz,aD]
theorem yx{i:Nat}(a:i<l.length):cO F (l.take (i+1)) need=cO F (l.take i) need+cG (ee F l[i]) need:=by grind [List.take_succ_eq_append_getElem,cO]
theorem y_{i:Nat}:0<=cO F (l.take i) need/\cO F (l.take i) need<=64 * 300:=by
 have h:=Xh (F:=F) (l:=l.take i) (need:=need) ⟨by grind [ib.yg],λn h=>hP.node n (OH h),λn h=>hP.Tl n (OH h)⟩ hn
 grind [ib.yg]
theorem Ym:rN 5000 F l need=some (cO F l need):=by
 have e:=hP.yg;unfold rN;refine bQ.eq (iS l.length (λi x=>x=(cO F (l.take i) need,(i:Int))) (λi x f a d g=>?_) (λx f d=>?_) (by simp[cO]) (by omega))
 ·subst d;have c:=lF hP hn (bG a);have b:=y_ hP hn hz (i:=i);dsimp only;rw[if_pos (cS a),bZ a,aD,WR hP hn hz (bG a),aD,bU (show i<1000000 by omega),wr (by omega) (by omega)]
  grind [yx]
 ·subst d;dsimp only;rw[if_neg (by simp),a_,uj]
theorem pf_room:zel 5000 F l need=some (cO F l need):=by
 have h:=hP.yg;unfold zel;refine bQ.eq (iS l.length (λi x=>x=(cO F (l.take i) need,(i:Int))) (λi x f a d j=>?_) (λx f d=>?_) (by simp[cO]) (by omega))
 ·subst d;have c:=lF hP hn (bG a);have b:=y_ hP hn hz (i:=i);have g:=hP.node _ (bG a);obtain ⟨_,e,_⟩:=pO g.1 g.2;simp only[gB];rw[if_pos (cS a)];simp only[bZ a,Option.bind_some];rw[if_pos (by simp_all),if_pos (by simp_all),e,aD,BA (hP.Tl _ (bG a)) hn hz,aD,bU (show i<1000000 by omega),wr (by omega) (by omega)]
  grind [yx]
 ·subst d;dsimp only;rw[if_neg (by simp),a_,uj]
theorem vG{i:Nat}(a:i<l.length)(many:Int):qR F need (l.take (i+1)) many=Gg F need (qR F need (l.take i) many) l[i]:=by grind [qR,List.take_succ_eq_append_getElem]
theorem SU{many:Int}(hm:1<=many/\many<=100000)(i:Nat):(0<=(qR F need (l.take i) many).1/\(qR F need (l.take i) many).1<=many)/\(qR F need (l.take i) many).2.length<=i:=by
 induction i with
 |zero=>grind [qR]
 |succ i ih=>
  by_cases a:i<l.length
  ·have c:=lF hP hn (bG a);rw[vG hP hn hz a];unfold Gg;by_cases q:zw (qR F need (l.take i) many).1 (cG (ee F l[i]) need)=0
   ·grind
   ·rw[if_neg q]
    grind [zw]
  grind [List.take_of_length_le]
theorem Lr{many:Int}(i:Nat)(h:(qR F need (l.take i) many).1=0):(qR F need l many).2=(qR F need (l.take i) many).2:=by
 have:∀n,qR F need (l.take (i+n)) many=qR F need (l.take i) many:=by
  intro n;induction n with
  |zero=>rfl
  |succ n ih=>
   by_cases a:i+n<l.length
   ·have c:=lF hP hn (bG a);rw[<-Nat.add_assoc,vG hP hn hz a,ih];unfold Gg zw
    grind
   grind [List.take_of_length_le]
 have:=this l.length
 grind [List.take_of_length_le]
theorem Z_{many:Int}(hm:many<=100000):zes 5000 F l many need=some (wh F l many need):=by
 have j:=hP.yg;unfold zes wh;simp only[gB];by_cases k:many<1
 ·simp_all
 rw[if_neg (by simp_all),Ym hP hn hz,aD];by_cases m:cO F l need<many
 ·simp_all
 rw[if_neg (by simp_all),if_neg (by omega)];refine bQ.eq (iS l.length (λi x=>x=((qR F need (l.take i) many).1,(i:Int),(qR F need (l.take i) many).2)) (λi x f a b d=>?_) (λx f b=>?_) (by simp[qR]) (by omega))
 ·subst b;have c:=lF hP hn (bG a);have g:=SU hP hn hz (many:=many) ⟨by omega,hm⟩ i;have st:=vG hP hn hz a many;dsimp only;rw[if_pos (cS a),bZ a,aD,WR hP hn hz (bG a),aD,bz];refine ⟨λh=>?_,λh=>?_⟩
  ·grind [a_,Lr]
  ·rw[bU (show i<1000000 by omega)];unfold Gg at st;rw[bz];refine ⟨λh=>?_,λh=>?_⟩
   ·rw[if_pos (show zw _ _=0 by grind [zw])] at st
    simp_all
   ·rw[if_neg (show ¬zw _ _=0 by grind [zw])] at st;rw[zq (by grind),aD];have e:i64.wrap ((qR F need (l.take i) many).1-(if (qR F need (l.take i) many).1<cG (ee F l[i]) need then (qR F need (l.take i) many).1 else cG (ee F l[i]) need))=(qR F need (l.take i) many).1-zw (qR F need (l.take i) many).1 (cG (ee F l[i]) need):=by
     grind [zw,wr]
    rw[e];exact d _ (by rw[st];rfl)
 ·subst b;dsimp only;rw[if_neg (by simp),a_,uj]
theorem XA{many:Int}(hm:many<=100000):zca 5000 F l many need=some (wh F l many need):=by
 have m:=hP.yg;unfold zca wh;simp only[gB];by_cases n:many<1
 ·simp_all
 rw[if_neg (by simp_all),pf_room hP hn hz,aD];by_cases o:cO F l need<many
 ·simp_all
 rw[if_neg (by simp_all),if_neg (by omega)];refine bQ.eq (iS l.length (λi x=>x=((qR F need (l.take i) many).1,(i:Int),(qR F need (l.take i) many).2)) (λi x f a d p=>?_) (λx f d=>?_) (by simp[qR]) (by omega))
 ·subst d;have c:=lF hP hn (bG a);have j:=SU hP hn hz (many:=many) ⟨by omega,hm⟩ i;have st:=vG hP hn hz a many;have g:=hP.node _ (bG a);obtain ⟨_,e,_⟩:=pO g.1 g.2;dsimp only;rw[bz];refine ⟨λh=>?_,λh=>?_⟩
  ·simp only[bN,bA] at h;rw[bZ a,aD,if_neg (by simp_all),aD,if_neg (by simp_all),aD,e,aD,BA (hP.Tl _ (bG a)) hn hz,aD,bU (show i<1000000 by omega)];unfold Gg zw at st;rw[bz];refine ⟨λb=>?_,λb=>?_⟩
   ·simp only[bA] at b;rw[if_pos (show (qR F need (l.take i) many).1<cG (ee F l[i]) need from b),if_neg (by omega)] at st;rw[if_pos (by simp_all),aD,zq (by grind),aD,wr (x:=_-_) (by omega) (by omega)]
    simp_all
   ·simp only[bA] at b;rw[if_neg (show ¬(qR F need (l.take i) many).1<cG (ee F l[i]) need from b)] at st;rw[wr (x:=_-_) (by omega) (by omega)];by_cases k:cG (ee F l[i]) need=0
    ·simp_all
    ·rw[if_neg k] at st;rw[if_pos (by grind),aD,zq (by grind),aD]
     simp_all
  ·rw[a_,Lr hP hn hz i]
   grind
 ·subst d;dsimp only;rw[if_neg (by simp),a_,uj]
end
theorem Je{F G:List aC}{l:List Int}(h:∀n∈l,ee F n=ee G n)(many:Int)(need:aC):wh F l many need=wh G l many need:=by
 have a:cO F l need=cO G l need:=by grind [cO,List.map_congr_left]
 have b:∀(m:List Int)(x:Int×List cU),(∀n∈m,n∈l)->m.foldl (Gg F need) x=m.foldl (Gg G need) x:=by
  intro m;induction m with
  |nil=>simp_all
  |cons n m ih=>grind [Gg]
 grind [wh,qR]
theorem Hg{a b need:aC}(k:aM a)(m:aM b)(hn:aM need)(h:jU a b):cG a need<=cG b need:=by
 have f:=se k hn;have n:=se m hn;rcases yBS (cG b need) (cG a need) with q | q
 ·obtain ⟨p,g,d⟩:=n.max (by have:=f.hi;omega);have e:∀(x y:Int×Int),x.2=y.2->x.1<=y.1->0<=y.2->x∈Fv a need->y.1<(cG b need+1) * y.2->False:=λx y s t o r d=>by
   have:=f.fit x r;have u:(cG b need+1) * y.2<=cG a need * y.2:=yAO (by omega) o
   grind
  have f0:=h 0;have f1:=h 1;have i:=h 2;have j:=h 3;simp only[cmp] at f0 f1 i j;have:=hn.FR;have:=hn.mem;have:=hn.Io;have:=hn.Jc;simp only[Fv,gq,KY,KU] at g;rcases g with rfl | rfl | rfl | rfl
  ·exact (e (a.bP,need.bP) (b.bP,need.bP) rfl f0 (by omega) (by simp[Fv]) d).elim
  ·exact (e (a.Mem,need.Mem) (b.Mem,need.Mem) rfl f1 (by omega) (by simp[Fv]) d).elim
  ·exact (e (a.bS,need.bS) (b.bS,need.bS) rfl i (by omega) (by simp[Fv]) d).elim
  ·exact (e (a.bT,need.bT) (b.bT,need.bT) rfl j (by omega) (by simp[Fv]) d).elim
 omega
theorem EJ{F G:List aC}{l:List Int}{need:aC}(d:ib F l)(e:ib G l)(hn:aM need)(h:∀n∈l,jU (ee F n) (ee G n)):cO F l need<=cO G l need:=by
 have:∀(m:List Int),(∀x∈m,x∈l)->cO F m need<=cO G m need:=by
  intro m;induction m with
  |nil=>grind [cO]
  |cons x m ih=>
   intro b;have g:=ih λy f=>b y (lI _ f);have a:=b x (ql ..);have:=Hg (d.Tl x a) (e.Tl x a) hn (h x a)
   grind [cO]
 simp_all
theorem mF{F:List aC}{l:List Int}{many:Int}{need:aC}:(wh F l many need).2=true↔1<=many/\many<=cO F l need:=by grind [wh]
end Go.Plain
end
section
namespace Go.Plain
open Go.Abs
def sU(j:aL):Bool:=(j.State == 3) || (j.State == 4)
theorem hasJ_lt{j:aL}(h:sU j=true):j.State<5:=by simp only[sU,gF,nB] at h;omega
structure fj (s:bo) (st:cz) (j:aL) (a:ce):Prop where
 CO:a.bj=j.Id
 need:a.az=j.az
 pp:lV s j a.ae
 now:st.aT<j.Start+j.aU
def lc(F:List aC)(a:ce):List aC:=F.mapIdx (q_ a)
theorem zeL{F:List aC}{a:ce}:(lc F a).length=F.length:=by simp[lc]
theorem nO{F:List aC}{a:ce}{i:Nat}(h:i<(lc F a).length):(lc F a)[i]=q_ a i (F[i]'(by grind [zeL])):=by simp[lc]
theorem sF.eq{F G:List aC}{a:ce}(h:sF F a G):G=lc F a:=
 yBZ (by rw[h.len,zeL]) λi j o=>by rw[h.cD i j,nO o]
theorem uQ{F:List aC}{a:ce}(h:xS F a):∀r∈lc F a,aM r:=λr b=>by obtain ⟨i,d,rfl⟩:=iX b;rw[nO d];exact h i _
def eY(s:bo)(st:cz):List aL->List ce->List aC->Prop
 |[],A,_=>A=[]
 |j::H,A,F=>∃a b,A=a::b/\fj s st j a/\xS F a/\eY s st H b (lc F a)
def gZ(s:bo)(st:cz):Prop:=eY s st (st.aj.filter sU) st.ai s.am
theorem eY.mem{s:bo}{st:cz}{H:List aL}{A:List ce}{F:List aC}(h:eY s st H A F):∀a∈A,∃j∈H,fj s st j a:=by
 induction H generalizing A F with
 |nil=>intro a i;rw[show A=[] from h] at i;cases i
 |cons j H ih=>
  obtain ⟨b,o,rfl,u,x,z⟩:=h
  grind
theorem gZ.mem{s:bo}{st:cz}(h:gZ s st):∀a∈st.ai,∃j∈st.aj,fj s st j a:=λa i=>by
 obtain ⟨j,o,u⟩:=eY.mem h a i
 grind
theorem UK{α:Type}{M:List (Int×α)}{k:Int}{a:α}{b:Int}:cN (jZ M k a) b=if k=b then some a else cN M b:=by
 induction M with
 |nil=>simp[jZ,cN]
 |cons p M ih=>
  obtain ⟨q,v⟩:=p;simp only[jZ];split
  ·grind [Go.Abs.cN]
  ·rename_i e;simp only[cN,ih]
   grind
theorem BK{s:bo}(hs:mJ s)(k:bp s):QU 5000 s=some true:=by obtain ⟨r,e,h⟩:=rA s hs;rw[e,h.2 k]
theorem HC{l:List aC}(h:l.length<=1000000):za1 5000 l=some l:=by simp only[za1,FW h]
theorem Ey{s:bo}(hs:mJ s)(k:bp s):zcK 5000 s=some (.inr ([],s.am)):=by have:=hs.nodes;simp only[zcK,BK hs k,Option.bind_some,OK,b_,cw,HC (show s.am.length<=1000000 by omega)]
theorem SX{l:List cU}(h:1<=lU l):l≠[]:=λe=>by grind [lU]
structure AInv (s:bo) (st:cz) (i:Nat) (x:(List ce)×Int×(List aC)×List (Int×ce)):Prop where
 ix:x.2.1=(i:Int)
 iff:gZ s st↔eY s st ((st.aj.drop i).filter sU) x.1 x.2.2.1
 len:x.2.2.1.length=s.am.length
 Tl:∀r∈x.2.2.1,aM r
 keys:∀q,cN x.2.2.2 q≠none->∃m,∃h:m<st.aj.length,m<i/\st.aj[m].Id=q
 sub:∀a∈x.1,a∈st.ai
 yg:x.1.length<=300
theorem FQ{s:bo}(k:bp s){st:cz}(z:lr s st)(J:dC s st):f_ (zev 5000 s st) (gZ s st):=by
 have hl:=z.bg;have hn:=z.spec.nodes;unfold zev;rw[Ey z.spec k,aD];dsimp only;refine iS st.aj.length (AInv s st) (λi x f G R hr=>?_) (λx f R=>?_) ⟨rfl,by simp[gZ],rfl,k.nodes.ok,λq h=>absurd rfl h,λa U=>U,z.cr⟩ (by omega)
 ·obtain ⟨o,x1,F,M⟩:=x;obtain ⟨p,d,t,n,g,j,u⟩:=R;dsimp only at p d t n g j u;subst p;rw[yB1 G] at d;have ji:=J.each _ (bG G);have O:=ji.ok;have up:∀q,(∃m,∃h:m<st.aj.length,m<i/\st.aj[m].Id=q)->∃m,∃h:m<st.aj.length,m<i+1/\st.aj[m].Id=q:=λq ⟨m,h,W,A⟩=>⟨m,h,by omega,A⟩;simp only[gB,eL,cS G,if_true,bZ G,Option.bind_some,bU (show i<1000000 by omega)];rw[bz];refine ⟨λh=>hr _ ⟨rfl,?_,t,n,λq hq=>up q (g q hq),j,u⟩,λh=>?_⟩
  ·have e:sU st.aj[i]=false:=by grind [sU]
   grind
  ·have e:sU st.aj[i]=true:=by simpa only[sU,iU,pc] using h
   rw[List.filter_cons_of_pos e] at d;have ad:=O.start;have af:=O.wall;rw[wr (x:=st.aj[i].Start+st.aj[i].aU) (by omega) (by omega),bz];refine ⟨λW=>dg λq=>?_,λW=>?_⟩
   ·obtain ⟨a,E,rfl,K,-⟩:=d.1 q;have:=K.now
    grind
   ·simp only[gF,bA,nB,not_or] at W;cases o with
    |nil=>grind
    |cons a E=>
     have U:=j a (ql ..);have L:=z.shares a U;have X:aB (a::E) 0=some a:=by unfold aB;simp_all
     have sl:slice? (a::E) 1 ((a::E).length:Int)=some E:=by unfold slice?;rw[if_pos ⟨by omega,by omega,by omega⟩];simp
     simp only[X,sl,Option.bind_some];rw[bz];refine ⟨λA=>?_,λA=>?_⟩
     ·refine dg λq=>?_;obtain ⟨Y,y,Z,K,-⟩:=d.1 q
      grind [fj.CO,iF,fj.need]
     ·simp only[gF,JP,ne_eq,not_or,UA,iU,pc] at A;have eN:a.az=st.aj[i].az:=iF.1 A.2;refine (LI z.spec k st.aj[i] a.ae (lK L (by decide))).bind λr aa=>?_;rw[bz];refine ⟨λh3=>?_,λh3=>?_⟩
      ·refine dg λq=>?_;obtain ⟨Y,y,Z,K,-⟩:=d.1 q
       grind [fj.pp]
      ·simp only[iU,pc] at h3;have S:=aa.1 h3;have P:fj s st st.aj[i] a:=⟨A.1,eN,S,by omega⟩;have T:xS F a->vL M F a:=λhf=>⟨by have:=O.id;omega,SX (by have:=O.many;have:=S.Wb;omega),by grind [lV.shares],by grind [gy.need],by
        cases hm:cN M a.bj with
        |none=>rfl
        |some v=>obtain ⟨m,ak,ab,an⟩:=g a.bj (by simp_all);have:=J.bF.lt ab G;omega,hf⟩
       refine (KD (M:=M) (a:=a) (F:=F) (by omega) (lK L (by decide)) n).bind λr2 N=>?_;rw[bz];refine ⟨λQ=>dg λq=>?_,λQ=>?_⟩
       ·obtain ⟨Y,y,Z,K,hf,-⟩:=d.1 q
        simp_all
       ·simp only[JP,ne_eq,UA] at Q;have tk:=N.1.1 Q;obtain ⟨eM,bh⟩:=N.2 Q;have eF:=bh.eq;refine hr _ ⟨rfl,?_,?_,?_,λq hq=>?_,λb hb=>j b (lI _ hb),?_⟩
        ·rw[d];dsimp only;rw[eF];constructor
         ·rintro ⟨Y,y,Z,K,hf,w⟩
          simp_all
         ·intro w;exact ⟨a,E,rfl,P,tk.fits,w⟩
        ·grind [zeL]
        ·grind [uQ,vL.fits]
        ·grind [UK]
        grind
 ·obtain ⟨o,x1,F,M⟩:=x;obtain ⟨p,d,t,n,g,j,u⟩:=R;dsimp only at p d;subst p;rw[List.drop_length] at d;simp only[fe,b_,cw,a_,nB];rw[d];constructor
  ·intro h;exact Yy (by omega)
  ·intro h;rw[show o=[] from h];rfl
end Go.Plain
end
section
namespace Go.Plain
open Go.Abs
structure OneB (n:Int) (b:kX):Prop where
 id:1<=b.Id/\b.Id<=281474976710656
 node:0<=b.Node/\b.Node<n
 lo:0<=b.bK
 span:b.bK<b.To
 hi:b.To<=1099511627776
structure vn (b:kX) (node p q:Int):Prop where
 node:b.Node=node
 span:b.bK<b.To
 pq:p<q
 l:b.bK<q
 r:p<b.To
structure Qd (l:List kX) (n:Int) (i:Nat) (b:kX):Prop where
 one:OneB n b
 up:∀x (h:x<l.length),x<i->l[x].Id<b.Id/\¬vn l[x] b.Node b.bK b.To
structure Aw (l:List kX) (n:Int):Prop where
 len:l.length<=16
 each:∀i (h:i<l.length),Qd l n i l[i]
theorem Fm(l:List kX)(node p q:Int)(k:l.length<=300):f_ (fV 5000 l node p q) (∃b∈l,vn b node p q):=by
 simp only[fV];refine wV l (λ_ b=>¬vn b node p q) (λi f a _ d=>?_) (λf h=>?_) (by omega)
 ·simp only[cS a,if_true,bZ a,Option.bind_some,bU (show i<1000000 by omega),bz];have e:decide ((if p > l[i].bK then p else l[i].bK)<(if q<l[i].To then q else l[i].To))=true↔l[i].bK<l[i].To/\p<q/\l[i].bK<q/\p<l[i].To:=by
   grind
  rw[bN,e,nB];exact ⟨λh=>sR ⟨_,bG a,⟨h.1,h.2.1,h.2.2.1,h.2.2.2.1,h.2.2.2.2⟩⟩,λh=>d λm=>h ⟨m.node,m.span,m.pq,m.l,m.r⟩⟩
 ·simp only[fe,b_,cw];exact dg λ⟨b,g,j⟩=>DF (A:=λb=>¬vn b node p q) h b g j
theorem Hb(l:List kX)(node p q:Int)(j:l.length<=300):f_ (zb5 5000 l node p q) (∃b∈l,vn b node p q):=by
 simp only[zb5];refine wV l (λ_ b=>¬vn b node p q) (λi f a _ d=>?_) (λf h=>?_) (by omega)
 ·simp only[cS a,if_true,bZ a,Option.bind_some,bU (show i<1000000 by omega),bz];simp only[bN,bA,nB];exact ⟨λh=>sR ⟨_,bG a,⟨h.1.1.1.1,h.1.1.1.2,h.1.1.2,h.1.2,h.2⟩⟩,λh=>d λm=>h ⟨⟨⟨⟨m.node,m.span⟩,m.pq⟩,m.l⟩,m.r⟩⟩
 ·simp only[fe,b_,cw];exact dg λ⟨b,e,g⟩=>DF (A:=λb=>¬vn b node p q) h b e g
theorem XP(b:kX)(n:Int):f_ (rO 5000 b n) (OneB n b):=by simp only[rO,f_,a_,bN,bA];exact ⟨λh=>⟨by omega,by omega,by omega,by omega,by omega⟩,λh=>by have:=h.id;have:=h.node;have:=h.lo;have:=h.span;have:=h.hi;omega⟩
theorem ref_one(b:kX)(n:Int):f_ (zeZ 5000 b n) (OneB n b):=by simp only[zeZ,zbi,Option.bind_some,f_,bz,a_,bN,bA];refine ⟨λa=>⟨λh=>⟨by omega,by omega,by omega,by omega,by omega⟩,λh=>by have:=h.id;have:=h.node;have:=h.lo;have:=h.span;have:=h.hi;omega⟩,λa=>⟨λh=>by simp at h,λh=>by have:=h.id;omega⟩⟩
theorem yM{α:Type}{l:List α}{i:Nat}(h:i<=l.length):slice? l 0 (i:Int)=some (l.take i):=by
 unfold slice?
 simp_all
theorem YE{l:List kX}{i:Nat}{P:kX->Prop}:(∃b∈l.take i,P b)↔∃x,∃h:x<l.length,x<i/\P l[x]:=by
 constructor
 ·grind [List.getElem_of_mem]
 ·rintro ⟨x,e,a,hp⟩;have d:x<(l.take i).length:=by grind
  refine ⟨(l.take i)[x],bG d,?_⟩
  simp_all
theorem Fx(l:List kX)(n:Int)(y:l.length<=300):f_ (mL 5000 l n) (Aw l n):=by
 unfold mL;rw[f_,bz];refine ⟨λh=>dg λq=>?_,λh=>?_⟩
 ·have:=q.len
  grind
 ·simp only[bA] at h;refine wV l (λi b=>Qd l n i b) (λi f d o w=>?_) (λf o=>?_) (by omega)
  ·have hd:decide ((i:Int) > 0)=decide (0<i):=by simp
   simp only[gB,cS d,if_true,bZ d,Option.bind_some,bU (show i<1000000 by omega),hd,yM (yCc d)];refine (XP l[i] n).bind λr k=>?_;rw[bz];refine ⟨λp=>dg λq=>?_,λp=>?_⟩
   ·have:=k.2 (q.each i d).one
    simp_all
   ·simp only[iU,pc] at p;have O:=k.1 p;have fin:(∀x (h:x<l.length),x<i->l[x].Id<l[i].Id)->bQ ((fV 5000 (l.take i) l[i].Node l[i].bK l[i].To).bind λr=>if r=true then some false else f ((i+1:Nat):Int)) (λb=>b=true↔Aw l n):=λs=>by
     refine (Fm (l.take i) _ _ _ (by rw[BY];omega)).bind λr e=>?_;rw[YE] at e;rw[bz];refine ⟨λg=>dg λq=>?_,λg=>w ⟨O,λx j a=>⟨s x j a,λm=>g (e.2 ⟨x,j,a,m⟩)⟩⟩⟩;obtain ⟨x,j,a,m⟩:=e.1 g;exact ((q.each i d).up x j a).2 m
    rw[bz];refine ⟨λg=>?_,λg=>?_⟩
    ·simp only[bA] at g;obtain ⟨m,rfl⟩:∃m,i=m+1:=⟨i-1,by omega⟩;have t:m<l.length:=by omega
     rw[wp1 (show m+1<1000000 by omega),bZ t,aD,bz];refine ⟨λu=>dg λq=>?_,λu=>fin λx j a=>?_⟩
     ·have:=((q.each (m+1) d).up m t (by omega)).1
      grind
     ·simp only[bA] at u;rcases XX (yCf.1 a) with v | v
      ·have:=((o m t (by omega)).up x j v).1;omega
      simp_all
    simp_all
  ·simp only[fe,b_,cw];exact sR ⟨by omega,λi d=>o i d⟩
theorem TM{α:Type}{l:List α}{i:Nat}(h:i<l.length):slice? l (i:Int) ((i+1:Nat):Int)=some [l[i]]:=by
 unfold slice?;rw[if_pos ⟨by omega,by omega,by omega⟩]
 grind [List.take_succ_eq_append_getElem,List.drop_eq_nil_of_le]
theorem Yz(l:List kX)(n:Int)(E:l.length<=300):f_ (zdK 5000 l n) (Aw l n):=by
 unfold zdK;refine wV l (λi b=>Qd l n i b) (λi f d p v=>?_) (λf p=>?_) (by omega)
 ·simp only[gB,cS d,if_true,bZ d,Option.bind_some,bU (show i<1000000 by omega)];refine (ref_one l[i] n).bind λr e=>?_;rw[bz];refine ⟨λk=>dg λq=>?_,λk=>?_⟩
  ·have:=e.2 (q.each i d).one
   simp_all
  ·simp only[iU,pc] at k;have O:=e.1 k;refine iS i (λx y=>y=(x:Int)/\∀z (h:z<l.length),z<x->l[z].Id<l[i].Id/\¬vn l[z] l[i].Node l[i].bK l[i].To) (λx y g m o w=>?_) (λy g o=>?_) ⟨rfl,λz h G=>by omega⟩ (by omega)
   ·obtain ⟨rfl,s⟩:=o;have a:x<l.length:=by omega
    simp only[cS m,if_true,bZ a,Option.bind_some,bU (show x<1000000 by omega)];rw[bz];refine ⟨λt=>dg λq=>?_,λt=>?_⟩
    ·have:=((q.each i d).up x a m).1
     grind
    ·simp only[bA] at t;rw[TM a,aD];refine (Hb [l[x]] _ _ _ (by simp)).bind λr j=>?_;simp only[zi,exists_eq_left] at j;rw[bz];refine ⟨λu=>dg λq=>((q.each i d).up x a m).2 (j.1 u),λu=>w _ ⟨rfl,λz hz A=>?_⟩⟩
     grind
   ·obtain ⟨rfl,s⟩:=o;simp only[fe,b_,cw];exact v ⟨O,s⟩
 ·simp only[fe,b_,cw,a_,bA];exact ⟨λh=>⟨by omega,λi d=>p i d⟩,λq=>by have:=q.len;omega⟩
def Sj(st:cz)(a:ce):Prop:=∀j∈st.aj,j.Id=a.bj->∀x∈a.ae,∀b∈st.ay,b.Node=x.Node->¬b.bK<j.Start+j.aU
structure zE (s:bo) (st:cz):Prop where
 cu:Aw st.ay s.am.length
 live:∀b∈st.ay,b.Id<st.eo/\st.aT<b.To
 yb:∀a∈st.ai,Sj st a
theorem Mf{s:bo}{st:cz}(v:lr s st)(J:dC s st)(A:gZ s st):f_ (ij 5000 s st) (zE s st):=by
 have k:=v.cu;have hj:=v.bg;have W:=v.cr;unfold ij;refine (Fx st.ay _ (by omega)).bind λr w=>?_;rw[bz];refine ⟨λz=>dg λq=>?_,λz=>?_⟩
 ·grind [zE.cu]
 ·simp only[iU,pc] at z;have B:=w.1 z;refine wV st.ay (λi b=>b.Id<st.eo/\st.aT<b.To) (λi f n _ E=>?_) (λf S=>?_) (by omega)
  ·simp only[cS n,if_true,bZ n,Option.bind_some,bU (show i<1000000 by omega)];rw[bz];simp only[gF,bA];exact ⟨λX=>dg λq=>by have:=q.live _ (bG n);omega,λX=>E (by omega)⟩
  ·simp only[fe,b_,cw];refine wV st.ai (λi a=>Sj st a) (λi f n _ E=>?_) (λf Y=>?_) (by omega)
   ·simp only[cS n,if_true,bZ n,Option.bind_some,bU (show i<1000000 by omega)];have G:=bG n;have Z:=v.shares _ G;obtain ⟨j,d,P⟩:=A.mem _ G;have o:=J.each j d;have aa:=o.ok.id;have ab:=o.ok.start;have jw:=o.ok.wall;refine (Tn (by omega) J.bF (id:=st.ai[i].bj) (by have:=P.CO;omega) J.ids).bind λr2 p=>?_;rw[p.1.2 ⟨j,d,P.CO.symm⟩,if_neg (by simp)];have h:=p.2 (p.1.2 ⟨j,d,P.CO.symm⟩);obtain ⟨K,ad⟩:=r2;dsimp only at h ⊢;obtain ⟨L,e⟩:=Gm (l:=st.aj) h.lo (by have:=h.lo;have:=h.hi;omega);have ej:st.aj[K.toNat]=j:=by
     obtain ⟨m,t,rfl⟩:=iX d;have:=J.bF.inj L t (by rw[h.is,P.CO])
     simp_all
    rw[ej] at e;rw[e];simp only[Option.bind_some];rw[wr (x:=j.Start+j.aU) (by omega) (by omega)];have pn:=P.now;refine wV st.ai[i].ae (λ_ x=>∀b∈st.ay,b.Node=x.Node->¬b.bK<j.Start+j.aU) (λm g t _ hg=>?_) (λg hG=>?_) (by omega)
    ·simp only[cS t,if_true,bZ t,Option.bind_some,bU (show m<1000000 by omega)];refine (Fm st.ay _ _ _ (by omega)).bind λr3 u=>?_;rw[bz];refine ⟨λM=>dg λq=>?_,λM=>hg λb k hn hf=>M (u.2 ⟨b,k,?_⟩)⟩
     ·obtain ⟨b,k,T⟩:=u.1 M;exact q.yb _ G j d P.CO.symm _ (bG t) b k T.node T.l
     ·obtain ⟨y,U,rfl⟩:=iX k;have:=S y U;exact ⟨hn,(B.each y U).one.span,pn,hf,this.2⟩
    ·simp only[fe,b_,cw];refine E λN O Q x L b k=>?_;have:N=j:=by
      obtain ⟨m,t,rfl⟩:=iX d;obtain ⟨m',R,rfl⟩:=iX O;have:=J.bF.inj R t (by rw[Q,P.CO])
      simp_all
     subst this;exact DF (A:=λx=>∀b∈st.ay,b.Node=x.Node->¬b.bK<N.Start+N.aU) hG x L b k
   ·simp only[fe,b_,cw];exact sR ⟨B,DF S,DF Y⟩
structure ba (s:bo) (st:cz):Prop where
 spec:bp s
 nums:Pd s st
 bg:dC s st
 waits:∀j∈st.aj,H_ s st j
 cr:gZ s st
 gM:zE s st
 use:Nl s st
theorem Oe{s:bo}{st:cz}(a:lr s st):f_ (px 5000 s st) (ba s st):=by
 unfold px;have step:∀{o:Option Bool}{P:Prop}{k:Option Bool},f_ o P->(ba s st->P)->(P->f_ k (ba s st))->f_ (o.bind λr=>if r=true then k else some false) (ba s st):=λe b f=>e.bind λr d=>bz.2 ⟨λh=>f (d.1 h),λh=>dg λq=>h (d.2 (b q))⟩
 refine step (rA s a.spec) (λq=>q.spec) λk=>?_;refine step (Pz k st) (λq=>q.nums) λe=>?_;refine step (jobs_ok k a) (λq=>q.bg) λb=>?_;refine step (Pe k a b) (λq=>q.waits) λf=>?_;refine step (FQ k a b) (λq=>q.cr) λg=>?_;refine step (Mf a b g) (λq=>q.gM) λi=>?_;refine (Zr a).bind λr d=>?_;rw[a_,d];exact ⟨λj=>⟨k,e,b,f,g,i,j⟩,λq=>q.use⟩
end Go.Plain
end
section
namespace Go.Plain
open Go.Abs
def cT(A:List ce)(i:Int)(c:Nat):Int:=(A.map λa=>dw a.ae i * cmp c a.az).sum
theorem zdE{a:ce}{A:List ce}{i:Int}{c:Nat}:cT (a::A) i c=dw a.ae i * cmp c a.az+cT A i c:=by simp[cT]
theorem nG{A:List ce}{k:Nat}(h:k<A.length)(i:Int)(c:Nat):cT (A.take (k+1)) i c=cT (A.take k) i c+dw A[k].ae i * cmp c A[k].az:=by grind [List.take_succ_eq_append_getElem,cT]
def zX(n:Int)(A:List ce):Prop:=∀a∈A,bn a.ae n/\aM a.az
theorem Yq{n:Int}{a:ce}(h:bn a.ae n/\aM a.az)(i:Int)(c:Nat):0<=dw a.ae i * cmp c a.az/\dw a.ae i * cmp c a.az<=67108864:=
 iq (o_ h.1 i) (vC.1 h.2 c)
theorem wI{n:Int}{A:List ce}(h:zX n A)(i:Int)(c:Nat):0<=cT A i c/\cT A i c<=67108864 * A.length:=by
 induction A with
 |nil=>simp[cT]
 |cons a A ih=>
  have e:=ih λb d=>h b (lI _ d);have f:=Yq (h a (ql ..)) i c
  grind [zdE]
def Ke(F:List aC)(A:List ce):Prop:=∀i (h:i<F.length) c,cT A i c<=cmp c F[i]
theorem Hl{a:aC}{n:Int}(b:aM a)(hn:0<=n/\n<=64):zcU 5000 a n=some (mulR n a):=by
 obtain ⟨m,rfl⟩:∃m:Nat,n=(m:Int):=⟨n.toNat,by omega⟩;unfold zcU;refine bQ.eq (iS m (λk x=>x=((k:Int),(k:Int) * a.bP,(k:Int) * a.Mem,(k:Int) * a.bS,(k:Int) * a.bT)) (λk x f hk d o=>?_) (λx f d=>?_) (by simp) (by omega))
 ·subst d;have g:=iq (n:=((k+1:Nat):Int)) (by omega) b.FR;have h:=iq (n:=((k+1:Nat):Int)) (by omega) b.mem;have i:=iq (n:=((k+1:Nat):Int)) (by omega) b.Io;have j:=iq (n:=((k+1:Nat):Int)) (by omega) b.Jc;have e:∀x:Int,((k+1:Nat):Int) * x=(k:Int) * x+x:=λx=>by grind
  rw[e] at g h i j;simp only[cS hk,if_true,YH,Option.bind_some,bU (show k<1000000 by omega)]
  grind [wr]
 ·subst d;simp only[fe,b_,cw,a_];rfl
theorem ZK(a b:aC):f_ (QJ 5000 a b) (∀c,cmp c a<=cmp c b):=by
 simp only[QJ,f_,a_,bN,bA];constructor
 ·intro h c
  match c with
  |0=>exact h.1.1.1
  |1=>exact h.1.1.2
  |2=>exact h.1.2
  |_+3=>exact h.2
 ·intro h;exact ⟨⟨⟨h 0,h 1⟩,h 2⟩,h 3⟩
theorem aaf{F:List aC}{A:List ce}(R:F.length<=300)(S:A.length<=300)(hs:∀a∈A,a.ae.length<=300){n:Int}(h:zX n A):bQ (zei 5000 F A) λr=>r.2=true↔Ke F A:=by
 unfold zei;refine iS F.length (λi x=>(x.1=true↔∀m (h:m<F.length),m<i->∀c,cT A m c<=cmp c F[m])/\x.2.1=(i:Int)/\x.2.2.length=i) (λi x f b o E=>?_) (λx f o=>?_) ⟨⟨λ_ m h T=>by omega,λ_=>rfl⟩,rfl,rfl⟩ (by omega)
 ·obtain ⟨G,K,p⟩:=x;obtain ⟨e,d,s⟩:=o;dsimp only at e d s;subst d;simp only[cS b,if_true];refine iS A.length (λk y=>y=((k:Int),cT (A.take k) i 0,cT (A.take k) i 1,cT (A.take k) i 2,cT (A.take k) i 3)) (λk y g hk t L=>?_) (λy g t=>?_) (by simp[cT]) (by omega)
  ·subst t;have u:=h _ (bG hk);have j:zX n (A.take (k+1)):=λa M=>h a (OH M);have lk:((A.take (k+1)).length:Int)<=300:=by grind
   have N:=wI j i 0;have O:=wI j i 1;have P:=wI j i 2;have Q:=wI j i 3;rw[nG hk] at N O P Q;simp only[cS hk,if_true,bZ hk,Option.bind_some,QK (hs _ (bG hk)) u.1,Hl u.2 (o_ u.1 i),YH,bU (show k<1000000 by omega)];refine L _ ?_;rw[nG hk,nG hk,nG hk,nG hk];have U:(mulR (dw A[k].ae i) A[k].az).bP=dw A[k].ae i * cmp 0 A[k].az:=rfl;have W:(mulR (dw A[k].ae i) A[k].az).Mem=dw A[k].ae i * cmp 1 A[k].az:=rfl;have X:(mulR (dw A[k].ae i) A[k].az).bS=dw A[k].ae i * cmp 2 A[k].az:=rfl;have Y:(mulR (dw A[k].ae i) A[k].az).bT=dw A[k].ae i * cmp 3 A[k].az:=rfl
   grind [wr]
  ·subst t;have ap:∀z:aC,cA p [z]=some (p++[z]):=λz=>zq (by grind);simp only[fe,b_,cw,gB,bZ b,Option.bind_some,zcJ,ap,bU (show i<1000000 by omega),uj];rw[bz];refine ⟨λv=>?_,λv=>?_⟩
   ·refine (ZK _ _).bind λr w=>?_;refine E _ ⟨?_,rfl,by simp_all⟩;dsimp only;rw[w];have Z:∀c,cmp c ({ bP:=cT A i 0,Mem:=cT A i 1,bS:=cT A i 2,bT:=cT A i 3 }:aC)=cT A i (min c 3):=λc=>by
     match c with
     |0=>rfl
     |1=>rfl
     |2=>rfl
     |c+3=>rw[Nat.min_eq_right (by omega)];rfl
    have eu:∀c,cT A i (min c 3)=cT A i c:=λc=>by
     match c with
     |0=>rfl
     |1=>rfl
     |2=>rfl
     |c+3=>rw[Nat.min_eq_right (by omega)];rfl
    grind
   grind
 ·obtain ⟨G,K,p⟩:=x;obtain ⟨e,d,s⟩:=o;dsimp only at e d s;subst d;simp only[fe,b_,cw,a_];rw[e];exact ⟨λq i b c=>q i b b c,λq i b _ c=>q i b c⟩
structure Rv (s:bo) (st:cz) (i:Nat) (a:ce):Prop where
 up:∀m (h:m<st.ai.length),m+1=i->st.ai[m].bj<a.bj
 CO:∃j∈st.aj,j.Id=a.bj
 shares:bn a.ae s.am.length
 need:aM a.az
structure Xj (s:bo) (st:cz):Prop where
 each:∀i (h:i<st.ai.length),Rv s st i st.ai[i]
 fit:Ke s.am st.ai
theorem Xj.MZ{s:bo}{st:cz}(h:Xj s st):zX s.am.length st.ai:=λa o=>by obtain ⟨i,j,rfl⟩:=iX o;exact ⟨(h.each i j).shares,(h.each i j).need⟩
theorem Qs{s:bo}{st:cz}(g:lr s st):f_ (zds 5000 s st) (Xj s st):=by
 have M:=g.bg;have v:=g.cr;have hn:=g.spec.nodes;unfold zds;refine wV st.ai (λi a=>Rv s st i a) (λi f d t w=>?_) (λf t=>?_) (by omega)
 ·have hd:decide ((i:Int) > 0)=decide (0<i):=by simp
  have x:=g.shares _ (bG d);have fin:(∀m (h:m<st.ai.length),m+1=i->st.ai[m].bj<st.ai[i].bj)->bQ ((Wj 5000 st.aj st.ai[i].bj).bind λr=>
    if decide (r<0)=true then some false else (zby 5000 st.ai[i].ae (s.am.length:Int)).bind λA=>
    if (!A)=true then some false else (zaV 5000 st.ai[i].az).bind λk=>if (!k)=true then some false else f ((i+1:Nat):Int)) (λb=>b=true↔Xj s st):=λy=>by
   refine (zM (by omega) st.ai[i].bj).bind λr n=>?_;rw[bz];refine ⟨λh=>dg λq=>?_,λh=>?_⟩
   ·have:=n.1.2 (q.each i d).CO
    simp_all
   ·simp only[bA] at h;refine (HW _ _ (lK x (by decide))).bind λA o=>?_;rw[bz];refine ⟨λh=>dg λq=>?_,λu=>?_⟩
    ·have:=o.2 (q.each i d).shares
     simp_all
    ·simp only[iU,pc] at u;refine (Am _).bind λk p=>?_;rw[bz];refine ⟨λh=>dg λq=>?_,λE=>?_⟩
     ·have:=p.2 (q.each i d).need
      simp_all
     ·simp only[iU,pc] at E;exact w ⟨y,n.1.1 (by omega),o.1 u,p.1 E⟩
  simp only[gB,cS d,if_true,bZ d,Option.bind_some,bU (show i<1000000 by omega),hd];rw[bz];refine ⟨λh=>?_,λh=>?_⟩
  ·simp only[bA] at h;obtain ⟨m,rfl⟩:∃m,i=m+1:=⟨i-1,by omega⟩;rw[wp1 (show m+1<1000000 by omega),bZ (show m<st.ai.length by omega),aD,bz];refine ⟨λu=>dg λq=>?_,λu=>fin λN L e=>?_⟩
   ·have:=(q.each (m+1) d).up m (by omega) rfl
    grind
   simp_all
  simp_all
 ·simp only[fe,b_,cw];have G:zX s.am.length st.ai:=λa z=>by
   obtain ⟨j,K,rfl⟩:=iX z;exact ⟨(t j K).shares,(t j K).need⟩
  refine (aaf (by omega) v (λa z=>lK (g.shares a z) (by decide)) G).bind λr w=>?_;rw[a_,w];exact ⟨λh=>⟨λi d=>t i d,h⟩,λh=>h.fit⟩
theorem Pu{l:List Int}(h:∀i (h:i+1<l.length),l[i]<l[i+1]):l.Pairwise (·<·):=by
 rw[yAU];intro i j b d a;induction j with
 |zero=>omega
 |succ j ih=>grind
theorem asc_eq{l m:List Int}(a:l.Pairwise (·<·))(hm:m.Pairwise (·<·))(h:∀x,x∈l↔x∈m):l=m:=by
 induction l generalizing m with
 |nil=>
  cases m with
  |nil=>rfl
  |cons y m=>grind [List.mem_cons_self]
 |cons x l ih=>
  cases m with
  |nil=>grind
  |cons y m=>
   rw[yBm] at a hm;have e:x=y:=by
    rcases gq.1 ((h x).1 (ql ..)) with e | b
    ·exact e
    ·rcases gq.1 ((h y).2 (ql ..)) with e | d
     ·omega
     grind
   grind
theorem po{s:bo}{st:cz}{H:List aL}{A:List ce}{F:List aC}(h:eY s st H A F)(g:∀r∈F,aM r):A.map (·.bj)=H.map (·.Id)/\Ke F A:=by
 induction H generalizing A F with
 |nil=>rw[show A=[] from h];exact ⟨rfl,λi b c=>by grind [cT,vC,List.getElem_mem]⟩
 |cons j H ih=>
  obtain ⟨a,k,rfl,m,d,e⟩:=h;obtain ⟨n,f⟩:=ih e (uQ d);refine ⟨by grind [fj.CO],λi b c=>?_⟩;have:=f i (by grind [zeL]) c;rw[nO,q_,Aq,Bf] at this
  grind [zdE]
theorem Lj{s:bo}{st:cz}{n:Int}{H:List aL}{A:List ce}{F:List aC}(d:A.map (·.bj)=H.map (·.Id))(v:∀r∈F,aM r)(m:∀a∈A,∀j∈H,a.bj=j.Id->fj s st j a)(o:zX n A)(p:Ke F A):eY s st H A F:=by
 induction H generalizing A F with
 |nil=>
  cases A with
  |nil=>rfl
  |cons a A=>cases d
 |cons j H ih=>
  cases A with
  |nil=>cases d
  |cons a A=>
   rw[ru,ru] at d;have e:a.bj=j.Id:=by simp_all
   have f:A.map (·.bj)=H.map (·.Id):=by simp_all
   have w:=o a (ql ..);have t:zX n A:=λb g=>o b (lI _ g);have fa:xS F a:=λi h=>vC.2 λc=>by have u:=p i h c;have x:=Yq w i c;have y:=wI t i c;have z:=vC.1 (v _ (bG h)) c;rw[zdE] at u;rw[q_,Aq,Bf];omega
   refine ⟨a,A,rfl,m a (ql ..) j (ql ..) e,fa,ih f (uQ fa) (λb g k hk=>m b (lI _ g) k (lI _ hk)) t λi h c=>?_⟩;have u:=p i (by grind [zeL]) c;rw[nO,q_,Aq,Bf]
   grind [zdE]
theorem IR{s:bo}{st:cz}(J:dC s st):((st.aj.filter sU).map (·.Id)).Pairwise (·<·):=by
 have h:(st.aj.map (·.Id)).Pairwise (·<·):=Pu λi a=>by rw[Kk,Kk];exact J.bF i (by simp_all)
 grind
structure Yg (s:bo) (st:cz) (j:aL):Prop where
 has:(∃a∈st.ai,a.bj=j.Id)↔sU j=true
 Zy:∀a∈st.ai,a.bj=j.Id->fj s st j a
theorem KL{s:bo}{st:cz}(k:bp s)(J:dC s st)(A:gZ s st):Xj s st/\∀j∈st.aj,Yg s st j:=by
 obtain ⟨o,p⟩:=po A k.nodes.ok;have pw:=IR J;rw[<-o] at pw;have BG:∀j∈st.aj,∀f∈st.aj,j.Id=f.Id->j=f:=λj b f d e=>by
  obtain ⟨m,n,rfl⟩:=iX b;obtain ⟨u,g,rfl⟩:=iX d;have:=J.bF.inj n g e
  simp_all
 refine ⟨⟨λi r=>?_,p⟩,λj b=>⟨⟨λ⟨a,h,e⟩=>?_,λt=>?_⟩,λa h e=>?_⟩⟩
 ·obtain ⟨j,b,P⟩:=A.mem _ (bG r);refine ⟨λm n e=>?_,⟨j,b,P.CO.symm⟩,P.pp.shares,by rw[P.need];exact (J.each j b).ok.need⟩
  grind [List.pairwise_iff_getElem]
 ·have:a.bj∈st.ai.map (·.bj):=gD.2 ⟨a,h,rfl⟩
  grind
 ·have:j.Id∈(st.aj.filter sU).map (·.Id):=gD.2 ⟨j,SE.2 ⟨b,t⟩,rfl⟩
  grind
 ·obtain ⟨f,d,P⟩:=A.mem a h
  grind [fj.CO]
theorem YQ{s:bo}{st:cz}(k:bp s)(J:dC s st)(R:Xj s st)(h:∀j∈st.aj,Yg s st j):gZ s st:=by
 have pw:(st.ai.map (·.bj)).Pairwise (·<·):=Pu λi g=>by rw[Kk,Kk];exact (R.each (i+1) (by simp_all)).up i (by grind) rfl
 refine Lj (n:=s.am.length) (asc_eq pw (IR J) λx=>⟨λf=>?_,λf=>?_⟩) k.nodes.ok (λa d j b e=>(h j (SE.1 b).1).Zy a d e) R.MZ R.fit
 ·obtain ⟨a,d,rfl⟩:=gD.1 f;obtain ⟨i,g,rfl⟩:=iX d;obtain ⟨j,b,e⟩:=(R.each i g).CO;exact gD.2 ⟨j,SE.2 ⟨b,(h j b).has.1 ⟨_,d,e.symm⟩⟩,e⟩
 ·obtain ⟨j,b,rfl⟩:=gD.1 f;obtain ⟨a,d,e⟩:=(h j (SE.1 b).1).has.2 (SE.1 b).2
  grind
end Go.Plain
end
section
namespace Go.Plain
open Go.Abs
structure kO (u:oA) (n:Int):Prop where
 shares:bn u.ae n
 yg:u.ae.length<=300
 need:aM u.az
 lo:0<=u.bK
 hi:u.To<=281474976710656
def jJ(u:oA)(k t:Int):aC:=if u.bK<=t/\t<u.To then mulR (dw u.ae k) u.az else bR
def aN(L:List oA)(k t:Int):aC:=L.foldl (λr u=>BP r (jJ u k t)) bR
theorem nV(L:List oA)(u:oA)(k t:Int):aN (L++[u]) k t=BP (aN L k t) (jJ u k t):=by simp[aN]
def Dd(B:List kX)(k t:Int):Prop:=∃b∈B,b.Node=k/\b.bK<=t/\t<b.To
open Classical in
noncomputable def bq(q:fo)(k t:Int):aC:=if Dd q.ay k t then bR else fG (ee q.S.am k) (aN q.L k t)
structure iV (q:fo):Prop where
 spec:bp q.S
 now:0<=q.aT/\q.aT<=1099511627776
 cu:Aw q.ay q.S.am.length
 used:∀u∈q.L,kO u q.S.am.length
 yg:q.L.length<=100
theorem pf_add{a b:aC}(d:∀c,0<=cmp c a/\cmp c a<=1099511627776)(e:∀c,0<=cmp c b/\cmp c b<=1099511627776):YH 5000 a b=some (BP a b):=by
 unfold YH BP;have f:=e 0;have g:=e 1;have h:=e 2;have i:=e 3;have j:=d 0;have k:=d 1;have m:=d 2;have n:=d 3
 grind [cmp,wr]
theorem pf_sub{a b:aC}(d:∀c,0<=cmp c a/\cmp c a<=1099511627776)(e:∀c,0<=cmp c b/\cmp c b<=1099511627776):zcJ 5000 a b=some (fG a b):=by
 unfold zcJ fG;have f:=e 0;have g:=e 1;have h:=e 2;have i:=e 3;have j:=d 0;have k:=d 1;have m:=d 2;have n:=d 3
 grind [cmp,wr]
theorem Ta(a b:aC):∃r,QJ 5000 a b=some r:=⟨_,rfl⟩
theorem Fs{u:oA}{n:Int}(h:kO u n)(k t:Int)(c:Nat):0<=cmp c (jJ u k t)/\cmp c (jJ u k t)<=67108864:=by
 unfold jJ;split
 ·rw[Bf];exact iq (o_ h.shares k) (vC.1 h.need c)
 grind [OE]
theorem Iz(a:aC):BP a bR=a:=dY λc=>by rw[wu,OE];omega
theorem Ic{L:List oA}{n:Int}(h:∀u∈L,kO u n)(k t:Int)(c:Nat)(i:Nat):0<=cmp c (aN (L.take i) k t)/\cmp c (aN (L.take i) k t)<=67108864 * i:=by
 induction i with
 |zero=>simp[aN,OE]
 |succ i ih=>
  by_cases a:i<L.length
  ·rw[DC a,nV,wu];have:=Fs (h _ (bG a)) k t c;omega
  grind [List.take_of_length_le]
section
variable{q:fo}(hq:iV q)
include hq
theorem YA(k t:Int):zbP 5000 q k t=some (aN q.L k t):=by
 have j:=hq.yg;unfold zbP;refine bQ.eq (iS q.L.length (λi x=>x=((i:Int),(aN (q.L.take i) k t).bP,(aN (q.L.take i) k t).Mem,(aN (q.L.take i) k t).bS,(aN (q.L.take i) k t).bT)) (λi x f a b m=>?_) (λx f b=>?_) (by simp[aN,bR]) (by omega))
 ·subst b;have u:=hq.used _ (bG a);have n:=Ic hq.used k t;simp only[gB];rw[if_pos (cS a),bZ a,aD,bU (show i<1000000 by omega)];have st:aN (q.L.take (i+1)) k t=BP (aN (q.L.take i) k t) (jJ q.L[i] k t):=by rw[DC a,nV]
  by_cases h:q.L[i].bK<=t/\t<q.L[i].To
  ·rw[if_pos (by simp_all),QK u.yg u.shares,aD,Hl u.need (o_ u.shares k),aD];have d:jJ q.L[i] k t=mulR (dw q.L[i].ae k) q.L[i].az:=by unfold jJ;simp_all
   have g:=Fs u k t;rw[d] at g;have e:YH 5000 ({ bP:=(aN (q.L.take i) k t).bP,Mem:=(aN (q.L.take i) k t).Mem,bS:=(aN (q.L.take i) k t).bS,bT:=(aN (q.L.take i) k t).bT }:aC) (mulR (dw q.L[i].ae k) q.L[i].az)=some (BP (aN (q.L.take i) k t) (mulR (dw q.L[i].ae k) q.L[i].az)):=
    pf_add (λc=>by grind) (λc=>by grind)
   simp_all
  ·rw[if_neg (by simp_all)];have d:jJ q.L[i] k t=bR:=by unfold jJ;grind
   grind [Iz]
 ·subst b;dsimp only;rw[if_neg (by simp),a_,uj]
theorem XO(k:Int){t:Int}(f:0<=t):f_ (zb5 5000 q.ay k t (i64.wrap (t+1))) (Dd q.ay k t):=by
 have g:=hq.cu.len;refine (Hb q.ay k t _ (by omega)).mono λr h=>h.trans ?_;constructor
 ·rintro ⟨b,a,m⟩;obtain ⟨i,d,rfl⟩:=iX a;have o:=(hq.cu.each i d).one;refine ⟨_,a,m.node,?_,m.r⟩;have j:=m.l;have n:=m.pq;have p:=m.r;have:=o.hi
  grind [wr]
 ·rintro ⟨b,a,m1,s,e⟩;obtain ⟨i,d,rfl⟩:=iX a;have o:=(hq.cu.each i d).one;have:=o.hi;have:=o.lo;exact ⟨_,a,m1,by omega,by grind [wr],by grind [wr],e⟩
theorem Rx{k:Nat}(hk:k<q.S.am.length){t:Int}(b:0<=t):bQ (zbk 5000 q k t) λr=>r.1=bq q k t:=by
 unfold zbk;rw[YA hq,aD];refine (XO hq k b).bind λr a=>?_;unfold bq;by_cases h:Dd q.ay k t
 ·rw[if_pos h,if_pos (a.2 h)];obtain ⟨x,e⟩:=Ta (aN q.L k t) { bP:=0,Mem:=0,bS:=0,bT:=0 };rw[e,aD,a_];rfl
 ·rw[if_neg h,if_neg λe=>h (a.1 e),bZ hk,aD];have n:=hq.spec.nodes.ok _ (bG hk);have d:=Ic hq.used k t;have f:=hq.yg;rw[pf_sub (λc=>by grind [vC]) (λc=>by grind [List.take_length]),aD,aD];obtain ⟨x,e⟩:=Ta (aN q.L k t) q.S.am[k];rw[e,aD,a_];have:ee q.S.am k=q.S.am[k]:=by grind [ee]
  rw[this]
end
def timeV(q:fo)(x:Int):Prop:=x=q.aT∨(∃u∈q.L,x=u.bK∨x=u.To)∨∃b∈q.ay,x=b.bK∨x=b.To
structure zC (q:fo) (T:List Int):Prop where
 bF:T.Pairwise λa b=>a<b
 mem:∀x,x∈T↔q.aT<=x/\timeV q x
 len:T.length<=300
structure Dm (l:List Int) (now:Int) (T:List Int):Prop where
 bF:T.Pairwise λa b=>a<b
 mem:∀x,x∈T↔now<=x/\x∈l
 len:T.length<=l.length
theorem Zl(l:List Int)(P:l.length<=300)(d:Int):bQ (zb0 5000 l d) (Dm l d):=by
 unfold zb0;refine iS l.length (λi x=>x.2=(i:Int)/\Dm (l.take i) d x.1) (λi x f r g v=>?_) (λx f g=>?_) ⟨rfl,by simp,by simp,by simp⟩ (by omega)
 ·obtain ⟨T,y⟩:=x;obtain ⟨rfl,k⟩:=g;dsimp only at k ⊢;have E:=k.len;rw[BY] at E;rw[if_pos (cS r),gB];have t:l.take (i+1)=l.take i++[l[i]]:=DC r;have G:(l.take (i+1)).length=(l.take i).length+1:=by grind
  have same:Dm (l.take i) d T->(l[i]<d∨l[i]∈T)->Dm (l.take (i+1)) d T:=λh e=>⟨h.bF,λx=>by
   rw[t,gp,zi,h.mem];constructor
   ·grind
   ·rintro ⟨a,b | b⟩
    ·grind
    ·subst b;rcases e with e | e
     ·omega
     ·exact (h.mem _).1 e,by grind⟩
  refine iS T.length (λj x=>x=(j:Int)/\∀m (w:m<T.length),m<j->T[m]<l[i]) (λj x K n g L=>?_) (λx K g=>?_) ⟨rfl,λm _ h=>by omega⟩ (by omega)
  ·obtain ⟨rfl,M⟩:=g;rw[gB,if_pos (cS n),bZ n,aD,bZ r,aD,bz];refine ⟨λh=>?_,λh=>?_⟩
   ·simp only[bA] at h
    grind [bU]
   ·simp only[bA] at h;rw[gB,aD,bz];refine ⟨λe=>?_,λe=>?_⟩
    ·simp only[bA] at e;dsimp only;rw[if_pos rfl,bU (show i<1000000 by omega)]
     grind
    ·simp only[bA] at e;rw[if_pos (cS n),aD,aD,bz];refine ⟨λu=>?_,λu=>?_⟩
     ·simp only[nB] at u
      grind [bU]
     ·simp only[nB] at u;rw[yM (yCc n),aD,FW (by grind),aD,aD,zq (by grind),aD,kl (yCc n),aD,zq (by grind),aD,bU (show i<1000000 by omega)];have o:T=T.take j++T.drop j:=(Lw ..).symm;have p:=k.bF;rw[o] at p;obtain ⟨p1,N,Q⟩:=OO.1 p;have R:∀x∈T.drop j,l[i]<x:=λx g=>by
       obtain ⟨m,w,rfl⟩:=KX.1 g
       grind [Nat.eq_zero_or_pos,List.pairwise_iff_getElem]
      have O:∀x∈T.take j,x<l[i]:=λx g=>by
       obtain ⟨m,w,rfl⟩:=KX.1 g
       grind
      refine v _ ⟨rfl,OO.2 ⟨OO.2 ⟨p1,by simp,λa z b A=>by grind⟩,N,λa z b A=>?_⟩,λx=>?_,?_⟩
      ·grind
      ·rw[t,gp (s:=l.take i),zi];have:=k.mem x;rw[o,gp] at this;rw[gp,gp,zi];constructor
       ·rintro ((a | a) | a)
        ·grind
        ·omega
        grind
       grind
      grind
  ·obtain ⟨rfl,M⟩:=g;rw[gB,if_neg (by simp)];dsimp only;rw[if_neg (by simp),gB,bZ r,aD,bz];refine ⟨λe=>?_,λe=>?_⟩
   ·simp only[bA] at e;dsimp only;rw[if_pos rfl,bU (show i<1000000 by omega)]
    grind
   ·simp only[bA] at e;rw[if_neg (by simp)];dsimp only;rw[if_neg (by simp)];rw[yM (cX _),aD,FW (by grind),aD,aD,zq (by grind),aD,kl (cX _),aD,zq (by grind),aD,bU (show i<1000000 by omega)];rw[uj,List.drop_length,DA];refine v _ ⟨rfl,OO.2 ⟨k.bF,by simp,λa z b A=>?_⟩,λx=>?_,by grind⟩
    ·grind [List.getElem_of_mem]
    ·rw[t,gp,zi,gp,zi,k.mem]
     grind
 ·obtain ⟨T,y⟩:=x;obtain ⟨rfl,k⟩:=g;dsimp only at k ⊢;rw[if_neg (by simp),a_]
  simp_all
theorem NN{q:fo}(hq:iV q):bQ (zbg 5000 q) (zC q):=by
 have o:=hq.yg;have p:=hq.cu.len;unfold zbg;refine iS q.L.length (λi x=>x.1=(i:Int)/\x.2.length=1+2 * i/\∀y,y∈x.2↔y=q.aT∨∃u∈q.L.take i,y=u.bK∨y=u.To) (λi x f b d j=>?_) (λx f d=>?_) ⟨rfl,rfl,λy=>by simp⟩ (by omega)
 ·obtain ⟨y,T⟩:=x;obtain ⟨rfl,g,a⟩:=d;dsimp only at g a ⊢;rw[if_pos (cS b)];simp only[bZ b,Option.bind_some];rw[zq (by grind),aD,zq (by grind),aD,bU (show i<1000000 by omega)];refine j _ ⟨rfl,by grind,λy=>?_⟩;rw[DC b];simp only[gp,zi,a];constructor
  ·rintro (((h | ⟨u,h1,h2⟩) | h) | h)
   ·omega
   ·grind
   ·simp_all
   simp_all
  grind
 ·obtain ⟨y,n⟩:=x;obtain ⟨rfl,k,e⟩:=d;dsimp only at k e ⊢;rw[if_neg (by simp)];rw[uj] at e;refine iS q.ay.length (λi x=>x.1=(i:Int)/\x.2.length=n.length+2 * i/\∀y,y∈x.2↔y∈n∨∃u∈q.ay.take i,y=u.bK∨y=u.To) (λi x f b d j=>?_) (λx f d=>?_) ⟨rfl,rfl,λy=>by simp⟩ (by omega)
  ·obtain ⟨y,T⟩:=x;obtain ⟨rfl,g,a⟩:=d;dsimp only at g a ⊢;rw[if_pos (cS b)];simp only[bZ b,Option.bind_some];rw[zq (by grind),aD,zq (by grind),aD,bU (show i<1000000 by omega)];refine j _ ⟨rfl,by grind,λy=>?_⟩;rw[DC b];simp only[gp,zi,a];constructor
   ·rintro (((h | ⟨u,h1,h2⟩) | h) | h)
    ·simp_all
    ·grind
    ·simp_all
    simp_all
   grind
  ·obtain ⟨y,T⟩:=x;obtain ⟨rfl,g,a⟩:=d;dsimp only at g a ⊢;rw[if_neg (by simp)];rw[uj] at a;refine (Zl T (by omega) q.aT).bind λR m=>?_;rw[a_];refine ⟨m.bF,λx=>?_,by have:=m.len;omega⟩;rw[m.mem,a,e,or_assoc];rfl
end Go.Plain
end
section
namespace Go.Plain
open Go.Abs
theorem jn_ite{X R:Type}{r:X->Option R}{c:Prop}[Decidable c]{a b:X}:jn r (λj=>if c then j a else j b)=r (if c then a else b):=by grind [Go.Abs.jn]
theorem RG{l:List cU}{n:Int}(h:bn l n){i:Int}:dw l i > 0↔∃x∈l,x.Node=i:=by
 have b:∀x∈l,1<=x.aK:=λx a=>(h.mem x a).2.2.1;clear h;induction l with
 |nil=>simp[dw]
 |cons y l ih=>
  have d:=ih λx a=>b x (lI _ a);have f:=b y (ql ..);have g:=rH (l:=l) (λx a=>by grind) i;have e:dw (y::l) i=(if y.Node=i then y.aK else 0)+dw l i:=by simp[dw]
  grind
def zW(st:cz)(node b:Int)(a:ce):Prop:=∃j∈st.aj,j.Id=a.bj/\(∃x∈a.ae,x.Node=node)/\b<j.Start+j.aU
theorem Ue{s:bo}{st:cz}(v:lr s st)(R:Xj s st)(node d:Int):bQ (zdP 5000 st node d) λb=>dC s st->(b=true↔∃a∈st.ai,zW st node d a):=by
 have T:=v.bg;have O:=v.cr;unfold zdP;refine wV st.ai (λi a=>dC s st->¬zW st node d a) (λi f t L w=>?_) (λf L=>?_) (by omega)
 ·simp only[gB,cS t,if_true,bZ t,Option.bind_some,bU (show i<1000000 by omega)];have u:=bG t;refine (zM (by omega) st.ai[i].bj).bind λr y=>?_;rw[bz];refine ⟨λh=>?_,λh=>?_⟩
  ·simp only[bA] at h;have g:=y.2.1 h;have S:=(R.each i t).shares;obtain ⟨M,e⟩:=Gm (l:=st.aj) g.lo (by have:=g.lo;have:=g.hi;omega);have z:=bG M;have fin:bQ (if decide (i64.wrap (st.aj[r.toNat].Start+st.aj[r.toNat].aU) > d)=true then some true else f ((i+1:Nat):Int)) (λb=>(∃x∈st.ai[i].ae,x.Node=node)->dC s st->(b=true↔∃a∈st.ai,zW st node d a)):=by
    rw[bz];refine ⟨λk=>?_,λk=>?_⟩
    ·rw[a_];intro E J;have o:=(J.each _ z).ok;have:=o.start;have:=o.wall;rw[wr (by omega) (by omega)] at k;simp only[bA] at k;exact ⟨λ_=>⟨_,u,_,z,g.is,E,k⟩,λ_=>rfl⟩
    ·refine (w λJ G=>?_).mono λb P _=>P;obtain ⟨j,n,K,-,N⟩:=G;have:j=st.aj[r.toNat]:=by
      obtain ⟨m,Q,rfl⟩:=iX n;have:=J.bF.inj Q M (by rw[K,g.is])
      simp_all
     subst this;have o:=(J.each _ z).ok;have:=o.start;have:=o.wall;rw[wr (by omega) (by omega)] at k
     simp_all
   rw[QK (lK (v.shares _ u) (by decide)) S,aD,e,bz];simp only[Option.bind_some];refine ⟨λk=>?_,λk=>?_⟩
   ·simp only[bA] at k
    grind [RG]
   ·simp only[bA] at k;rw[if_neg (by simp)];exact w λJ ⟨j,n,K,p,N⟩=>k ((RG S).2 p)
  ·simp only[bA] at h;rw[if_neg (by simp)];exact w λJ ⟨j,n,K,p,N⟩=>by simp_all
 ·simp only[fe,b_,cw,a_,FU];rintro J ⟨a,u,G⟩;exact DF (A:=λa=>dC s st->¬zW st node d a) L a u J G
theorem UF{s:bo}{st:cz}(y:lr s st)(R:Xj s st):bQ (zdN 5000 s st) λb=>dC s st->(b=true↔zE s st):=by
 have E:=y.cu;unfold zdN;refine wV st.ay (λi b=>(b.Id<st.eo/\st.aT<b.To)/\(dC s st->¬∃a∈st.ai,zW st b.Node b.bK a)) (λi f k z n=>?_) (λf z=>?_) (by omega)
 ·simp only[gB,cS k,if_true,bZ k,Option.bind_some,bU (show i<1000000 by omega)];have d:=bG k;rw[bz];refine ⟨λh=>?_,λh=>?_⟩
  ·rw[a_];intro J;simp only[gF,bA] at h;simp only[b_,FU];exact λq=>by have:=q.live _ d;omega
  ·simp only[gF,bA] at h;refine (Ue y R _ _).bind λr g=>?_;rw[bz];refine ⟨λo=>?_,λo=>n ⟨by omega,λJ=>λq=>o ((g J).2 q)⟩⟩;rw[a_];intro J;simp only[b_,FU];intro q;obtain ⟨a,p,j,t,e,⟨x,u,v⟩,w⟩:=(g J).1 o;exact q.yb a p j t e x u _ d v.symm w
 ·simp only[fe,b_,cw];refine (Yz _ _ (by omega)).bind λr n=>?_;rw[a_];intro J;rw[n];refine ⟨λh=>⟨h,λb d=>?_,λa p j t e x u b d v w=>?_⟩,λq=>q.cu⟩
  ·grind [List.getElem_of_mem]
  ·obtain ⟨m,A,rfl⟩:=iX d;exact (z m A).2 J ⟨a,p,j,t,e,⟨x,u,v.symm⟩,w⟩
structure AtA (l:List ce) (id:Int) (r:Int):Prop where
 lo:0<=r
 hi:r.toNat<l.length
 is:l[r.toNat].bj=id
theorem Uk{l:List ce}(g:l.length<=300)(id:Int):bQ (zej 5000 l id) λr=>(0<=r↔∃a∈l,a.bj=id)/\(0<=r->AtA l id r):=by
 unfold zej;refine wV l (λ_ j=>j.bj≠id) (λi f h _ b=>?_) (λf h=>?_) (by omega)
 ·simp only[cS h,if_true,bZ h,Option.bind_some,bU (show i<1000000 by omega),bz,a_,nB];exact ⟨λe=>⟨⟨λ_=>⟨_,bG h,e⟩,λ_=>by omega⟩,λ_=>⟨by omega,by omega,by simp_all⟩⟩,λe=>b e⟩
 ·simp only[fe,b_,cw,a_];refine ⟨⟨λh=>by omega,λ⟨j,d,e⟩=>absurd e (DF (A:=λj=>j.bj≠id) h j d)⟩,λh=>by omega⟩
theorem Xj.BG{s:bo}{st:cz}(R:Xj s st){i j:Nat}(o:i<st.ai.length)(u:j<st.ai.length)(e:st.ai[i].bj=st.ai[j].bj):i=j:=by
 have pw:(st.ai.map (·.bj)).Pairwise (·<·):=Pu λi o=>by rw[Kk,Kk];exact (R.each (i+1) (by simp_all)).up i (by grind) rfl
 grind [List.pairwise_iff_getElem]
structure PX (s:bo) (st:cz) (j:aL):Prop where
 OP:kE s st j
 waits:H_ s st j
 has:Yg s st j
theorem ref_job{s:bo}(k:bp s){st:cz}(t:lr s st)(R:Xj s st){j:aL}(T:j∈st.aj):f_ (zeQ 5000 s st j) (PX s st j):=by
 have kv:=k.vW;have hl:=t.bg;have E:=t.cr;unfold zeQ;refine (GB j (t.after j T)).bind λr u=>?_;rw[bz];refine ⟨λh=>dg λq=>?_,λh=>?_⟩
 ·have:=u.2 q.OP.ok;rw[this] at h;simp only[gF,bA,OK,b_,false_or] at h;have:=q.OP.next;have:=q.OP.user;have:=q.OP.queue;have:=q.OP.born;have:=q.OP.start;have:=q.OP.fin;omega
 ·simp only[gF,bA,not_or,iU,pc] at h;have p:=u.1 h.1.1.1.1.1.1;have U:=p.state.st;have X:=p.start;have Y:=p.wall;simp only[jn_ite];generalize Z:(if decide (j.State≥5)=true then (3:Int) else if (j.State == 4)=true then 2 else if (j.State == 3)=true then 1 else 0)=e;have ev:e=jI j.State:=by
   rw[<-Z];simp only[jI,bA,nB,ge_iff_le];omega
  have eb:=FP j.State;refine (Uk E j.Id).bind λr8 v=>?_;simp only[gB,zeV,Option.bind_some];rw[ev,wr (x:=s.aE+jI j.State) (by omega) (by omega),bz];refine ⟨λO=>dg λq=>?_,λO=>?_⟩
  ·have:=q.OP.version
   grind
  ·simp only[bA] at O;have I:kE s st j:=⟨p,by omega,by omega,by omega,by omega,by omega,by omega,by omega⟩;have eh:((j.State == 3) || (j.State == 4))=sU j:=rfl;rw[eh,bz];refine ⟨λh3=>dg λq=>?_,λh3=>?_⟩
   ·have:=q.has.has
    simp_all
   ·have n:(∃a∈st.ai,a.bj=j.Id)↔sU j=true:=by
     grind
    rw[bz];refine ⟨λG=>sR ?_,λG=>?_⟩
    ·simp only[bA] at G;refine ⟨I,λhs=>by omega,n,λa A e=>?_⟩
     grind
    ·simp only[bA] at G;have A:=p.ny;refine wV j.aI (λ_ d=>∃i∈st.aj,i.Id=d.bj) (λm g w P hr=>?_) (λg P=>?_) (by omega)
     ·simp only[cS w,if_true,bZ w,Option.bind_some,bU (show m<1000000 by omega)];refine (zM (by omega) j.aI[m].bj).bind λr y=>?_;rw[bz];refine ⟨λz=>dg λq=>?_,λz=>hr (y.1.1 ?_)⟩
      ·have:=y.1.2 ((q.waits (by omega)).after _ (bG w))
       simp_all
      simp_all
     ·simp only[fe,b_,cw];obtain ⟨b,e1,e2⟩:=Sq t.spec k (q:=j.Queue) (m:=j.aK) p.need p.nU;rw[e2,aD,bz];refine ⟨λz=>dg λq=>?_,λz=>?_⟩
      ·have:=(q.waits (by omega)).fits
       simp_all
      ·simp only[iU,pc] at z;subst z;have W:H_ s st j:=λ_=>⟨e1,DF P⟩;rw[bz];refine ⟨λK=>sR ⟨I,W,n,λa A e=>?_⟩,λK=>?_⟩
       ·simp_all
       ·simp only[iU,pc] at K;have r0:=v.1.2 (n.2 K);have f:=v.2 r0;obtain ⟨Q,e3⟩:=Gm (l:=st.ai) f.lo (by have:=f.lo;have:=f.hi;omega);have o:=bG Q;rw[wr (x:=j.Start+j.aU) (by omega) (by omega),e3,bz];simp only[Option.bind_some];refine ⟨λL=>?_,λL=>dg λq=>?_⟩
        ·simp only[bA] at L;rw[bz];refine ⟨λM=>?_,λM=>dg λq=>M (iF.2 (q.has.Zy _ o f.is).need)⟩;have eN:=iF.1 M;refine (Xa t.spec k j _ (lK (t.shares _ o) (by decide))).bind λr N=>?_;rw[a_,N];refine ⟨λS=>⟨I,W,n,λa A e=>?_⟩,λq=>(q.has.Zy _ o f.is).pp⟩;have:a=st.ai[r8.toNat]:=by
          obtain ⟨m,w,rfl⟩:=iX A;have:=R.BG w Q (by rw[e,f.is])
          simp_all
         subst this;exact ⟨e,eN,S,L⟩
        ·have:=(q.has.Zy _ o f.is).now
         simp_all
theorem HT{s:bo}{st:cz}(d:lr s st):f_ (zcN 5000 s st) (ba s st):=by
 have hl:=d.bg;have hq:=d.stamps;have T:=d.use;unfold zcN;simp only[gB];refine (UT s d.spec).bind λr g=>?_;rw[bz];refine ⟨λh=>?_,λh=>?_⟩
 ·rw[if_pos trivial];refine dg λq=>?_;have:=g.2 q.spec;rw[this] at h;have W:=q.spec.ids;have:=q.nums.now;have:=q.nums.next;have:=q.nums.book;rw[wr (x:=s.gU+1) (by omega) (by omega)] at h
  grind
 ·simp only[gF,bA,not_or,iU,pc] at h;have k:=g.1 h.1.1.1.1.1;have W:=k.ids;rw[wr (x:=s.gU+1) (by omega) (by omega)] at h;refine (IL st.eo).bind λr2 n=>?_;rw[bz];refine ⟨λy=>dg λq=>?_,λy=>?_⟩
  ·have:=n.2 (by have:=q.nums.book;omega)
   simp_all
  ·simp only[iU,pc] at y;have u2:=n.1 y;have X:Pd s st:=⟨by omega,by omega,by omega⟩;rw[bz];refine ⟨λP=>?_,λP=>?_⟩
   ·rw[if_pos trivial];refine dg λq=>?_;have:=q.bg.len
    grind
   ·simp only[bA] at P;refine (Qs d).bind λr4 z=>?_;rw[bz];refine ⟨λA=>?_,λA=>?_⟩
    ·rw[if_pos trivial];refine dg λq=>?_
     grind [KL,ba.bg,ba.cr]
    ·simp only[iU,pc] at A;have R:=z.1 A;refine (UF d R).bind λr5 E=>?_;rw[bz];refine ⟨λG=>?_,λG=>?_⟩
     ·rw[if_pos trivial];refine dg λq=>?_
      grind [ba.bg,ba.gM]
     ·simp only[iU,pc] at G;refine (ref_use st.oF s.aO (by omega)).bind λr6 o=>?_;rw[bz];refine ⟨λv=>?_,λv=>?_⟩
      ·rw[if_pos trivial];refine dg λq=>?_;have:=o.2 ⟨q.use.len,q.use.use⟩;rw[this] at v;have:=q.use.qlen
       simp_all
      ·simp only[gF,JP,ne_eq,not_or,UA,iU,pc] at v;have Q:=o.1 v.1;refine (IL st.aG.am).bind λr7 p=>?_;rw[bz];refine ⟨λK=>dg λq=>?_,λK=>?_⟩
       ·have:=p.2 q.use.nodes
        simp_all
       ·simp only[iU,pc] at K;have Y:=p.1 K;refine wV st.aG.aq (λ_ x=>0<=x/\x<=281474976710656) (λi f a _ w=>?_) (λf Z=>?_) (by omega)
        ·simp only[cS a,if_true,bZ a,Option.bind_some,bU (show i<1000000 by omega)];refine (IL _).bind λr8 t=>?_;rw[bz];refine ⟨λh8=>dg λq=>?_,λh8=>w (t.1 (by simp_all))⟩;have:=t.2 (q.use.stamps _ (bG a))
         simp_all
        ·simp only[fe,b_,cw];have U:Nl s st:=⟨Q.1,Q.2,by omega,Y,DF Z⟩;refine wV st.aj (λi j=>PX s st j/\JI st.aj i<j.Id) (λi f a _ w=>?_) (λf S=>?_) (by omega)
         ·have hd:decide ((i:Int) > 0)=decide (0<i):=by simp
          have b:=bG a;simp only[cS a,if_true,bZ a,Option.bind_some,bU (show i<1000000 by omega),hd];refine (ref_job k d R b).bind λr9 u=>?_;rw[bz];refine ⟨λL=>dg λq=>?_,λL=>?_⟩
          ·have:=u.2 ⟨q.bg.each _ b,q.waits _ b,(KL k q.bg q.cr).2 _ b⟩
           simp_all
          ·simp only[iU,pc] at L;have M:=u.1 L;rw[bz];refine ⟨λe=>?_,λe=>?_⟩
           ·simp only[bA] at e;obtain ⟨m,rfl⟩:∃m,i=m+1:=⟨i-1,by omega⟩;rw[wp1 (show m+1<1000000 by omega),bZ (show m<st.aj.length by omega),aD,bz];refine ⟨λN=>dg λq=>?_,λN=>w ⟨M,?_⟩⟩
            ·have:=q.bg.bF m a
             grind
            ·rw[wO (by omega)]
             simp_all
           ·simp only[bA] at e;have:i=0:=by omega
            subst this;refine w ⟨M,?_⟩;have:=M.OP.ok.id
            grind [JI]
         ·simp only[fe,b_,cw];have O:dC s st:=RJ (by omega) λi a=>⟨(S i a).1.OP,(S i a).2⟩;have all:∀j∈st.aj,PX s st j:=λj b=>by
           grind [List.getElem_of_mem]
          exact sR ⟨k,X,O,λj b=>(all j b).waits,YQ k O R λj b=>(all j b).has,(E O).1 G,U⟩
end Go.Plain
end
section
namespace Go.Plain
open Go.Abs
theorem sJ{l:List Int}(h:l.length<=1000000):zaX 5000 l=some l:=by unfold zaX;exact FW h
theorem Dx{s:bo}(hs:mJ s):zcZ 5000 s=some s:=by
 have g:=hs.nodes;have h:=hs.parts;have j:=hs.iu;unfold zcZ;rw[HC (by omega),aD,show zct 5000 s.aF=some s.aF from FW (by omega),aD];refine bQ.eq (iS s.aF.length (λi x=>x=((i:Int),s.aF)) (λi x f a b d=>?_) (λx f b=>?_) rfl (by omega))
 ·subst b;have e:=hs.part _ (bG a);simp only[cS a,if_true,bZ a,Option.bind_some,bU (show i<1000000 by omega),sJ (show s.aF[i].length<=1000000 by omega),Int.toNat_natCast,yBU]
  simp_all
 ·subst b;simp only[fe,b_,cw];rw[show zbh 5000 s.aq=some s.aq from FW (by omega),aD];refine iS s.aq.length (λi x=>x=((i:Int),s.aq)) (λi x f a b d=>?_) (λx f b=>?_) rfl (by omega)
  ·subst b;have e:=hs.queue _ (bG a);simp only[cS a,if_true,bZ a,Option.bind_some,bU (show i<1000000 by omega),sJ (show s.aq[i].aO.length<=1000000 by omega),Int.toNat_natCast,yBU];exact d _ (Prod.ext rfl (yBU a))
  ·subst b;simp only[fe,b_,cw,a_]
theorem Vu{n:Int}(h:1<=n/\n<=8):qQ 5000 n=some (List.replicate n.toNat 0):=by simp only[qQ,zcn];rw[if_neg (by grind),if_neg (by simp_all)];simp only[Option.bind_some,Cs];rw[if_pos (by omega)];rfl
theorem Vh{n:Int}(h:1<=n/\n<=256):zd7 5000 n=some (.inr n):=by
 simp only[zd7]
 simp_all
theorem new_ok{s:bo}(hs:mJ s)(k:bp s):fJ 5000 s=some (.inr (List.replicate s.aq.length 0,[],s.am,s.aF,s.aq,s.aO,s.ah.jb,s.ah.cH,s.ah.eR,s.ah.bB,s.bJ,s.Mode,s.aj,s.gU,s.aE,s.aW,s.cP,s.In,s.Out,s.bI,0,1,1,List.replicate s.aO.toNat 0,0,s.aj,s.am)):=by have a:=hs.iu;unfold fJ;rw[BK hs k,aD,if_neg (by simp),Vh k.bg,aD];dsimp only;rw[Ey hs k,aD];dsimp only;rw[Dx hs,aD,Vu k.AX,aD];unfold Cs;rw[if_pos (by omega),aD];rw[xAc]
theorem DJ{j:aL}(h:j.aI.length<=1000000):jp 5000 j=some j:=by unfold jp;rw[show zaB 5000 j.aI=some j.aI from FW h];rfl
theorem LO{l:List aL}(e:l.length<=300)(d:∀j∈l,j.aI.length<=10):zcQ 5000 l=some l:=by
 unfold zcQ;rw[show zbI 5000 l=some l from FW (by omega),aD];refine bQ.eq (iS l.length (λi x=>x=((i:Int),l)) (λi x f a b g=>?_) (λx f b=>?_) rfl (by omega))
 ·subst b;have h:=d _ (bG a);simp only[cS a,if_true,bZ a,Option.bind_some,bU (show i<1000000 by omega),DJ (show l[i].aI.length<=1000000 by omega),Int.toNat_natCast,yBU]
  simp_all
 ·subst b;simp only[fe,b_,cw,a_]
def mapA(A:List ce):List (Int×ce):=A.map λa=>(a.bj,a)
def Ae(A:List ce):Prop:=(A.map (·.bj)).Pairwise (·<·)
theorem ZQ{A:List ce}(h:Ae A):∀i (d:i<A.length),cN (mapA A) A[i].bj=some A[i]:=by
 induction A with
 |nil=>simp_all
 |cons a A ih=>
  unfold Ae at h;rw[ru,yBm] at h;intro i d
  match i,d with
  |0,d=>simp[mapA,cN]
  |i + 1, d=>
   have b:i<A.length:=by simp_all
   have:=h.1 A[i].bj (gD.2 ⟨_,bG b,rfl⟩);have e:cN (mapA (a::A)) A[i].bj=cN (mapA A) A[i].bj:=by
    simp only[mapA,ru,cN]
    grind
   rw[List.getElem_cons_succ,e];exact ih h.2 i b
theorem HP{A:List ce}{q:Int}(h:∀a∈A,a.bj≠q):cN (mapA A) q=none:=by
 induction A with
 |nil=>rfl
 |cons a A ih=>simp only[mapA,ru,cN];rw[if_neg (h a (ql ..))];exact ih λb d=>h b (lI _ d)
theorem Zf{A:List ce}{a:ce}(h:∀b∈A,b.bj≠a.bj):jZ (mapA A) a.bj a=mapA (A++[a]):=by
 induction A with
 |nil=>rfl
 |cons b A ih=>
  have:=ih λc d=>h c (lI _ d);simp only[mapA,List.cons_append,ru,jZ] at this ⊢
  simp_all
theorem i64wf{n:Int}(h:0<=n/\n<=1048576):(Lit.int .i64 n).wf=true:=by
 have a:IntKind.i64.min=-9223372036854775808:=by decide
 have b:IntKind.i64.max=9223372036854775807:=by decide
 simp only[Lit.wf,bN,bA,a,b];omega
theorem Km{A:List ce}(i:A.length<=300)(h:Ae A)(j:∀a∈A,0<=a.bj/\a.bj<=1048576):zH (λk=>k) (mapA A)=some (A.map (·.bj)):=by
 have e:(mapA A).map Prod.fst=A.map (·.bj):=by simp[mapA]
 unfold zH;have b:∀p∈mapA A,(Lit.int .i64 p.1).wf=true:=λp d=>by
  obtain ⟨a,m,rfl⟩:=gD.1 d
  grind [i64wf]
 have f:(A.map (·.bj)).Nodup:=h.imp λh=>by omega
 have g:(mapA A).length<=1000000:=by grind [mapA]
 rw[e,if_pos ⟨g,f,b⟩,List.mergeSort_of_pairwise (h.imp λh=>by grind)];simp
theorem DY{A:List ce}(j:A.length<=300)(h:Ae A)(k:∀a∈A,0<=a.bj/\a.bj<=1048576)(hs:∀a∈A,a.ae.length<=300):aY 5000 (mapA A)=some A:=by
 unfold aY;rw[Km j h k,aD];refine bQ.eq (iS (A.map (·.bj)).length (λi x=>x=((i:Int),A.take i)) (λi x f g d m=>?_) (λx f d=>?_) (by simp) (by grind))
 ·subst d;have b:i<A.length:=by simp_all
  have e:=ZQ h i b;have n:=hs _ (bG b);simp only[cS g,if_true,bZ g,Option.bind_some,bU (show i<1000000 by omega),Kk,e,oel,Ii (show A[i].ae.length<=1000000 by omega)]
  grind [zq,List.take_succ_eq_append_getElem]
 ·subst d;simp only[fe,b_,cw,a_,wj,uj]
theorem CE{l:List kX}(h:l.length<=1000000):zaP 5000 l=some l:=by unfold zaP;exact FW h
theorem beq_dep(a:dZ):dZ.beq a a=true:=by simp[dZ.beq]
theorem Vi(a:cU):cU.beq a a=true:=by simp[cU.beq]
theorem beq_book(a:kX):kX.beq a a=true:=by simp[kX.beq]
theorem MP(a:aC):aC.beq a a=true:=iF.2 rfl
theorem lpT{α:Type}{b:(Int->Option Bool)->Int->Option Bool}(l:List α)(hs:∀(i:Nat)(f:Int->Option Bool)(h:i<l.length),b f (i:Int)=f ((i+1:Nat):Int))(a:∀f,b f (l.length:Int)=some true){N:Nat}(d:l.length<N):bC b N 0=some true:=
 bQ.eq (wV l (λ_ _=>True) (λi f h _ e=>by simp_all) (λf _=>by rw[a];exact ⟨_,rfl,rfl⟩) d)
theorem HF(l:List Int)(a:l.length<=300):zc6 5000 l l=some true:=by
 unfold zc6;rw[if_neg (by simp)];refine lpT l (λi f h=>?_) (λf=>?_) (by omega)
 ·simp only[cS h,if_true,bZ h,Option.bind_some,bU (show i<1000000 by omega),yCi,b_,cw]
 ·simp only[fe,b_,cw]
theorem ZA(j:aL)(a:j.aI.length<=300):zef 5000 j j=some true:=by
 unfold zef;rw[if_neg (by simp)];refine lpT j.aI (λi f h=>?_) (λf=>?_) (by omega)
 ·simp only[cS h,if_true,bZ h,Option.bind_some,bU (show i<1000000 by omega),beq_dep,OK,b_,cw]
 ·simp only[fe,b_,cw,yBY,MP,Bool.and_self]
theorem Vo(l:List aL)(b:l.length<=300)(a:∀j∈l,j.aI.length<=10):zep 5000 l l=some true:=by
 unfold zep;rw[if_neg (by simp)];refine lpT l (λi f h=>?_) (λf=>?_) (by omega)
 ·have:=a _ (bG h);simp only[cS h,if_true,bZ h,Option.bind_some,bU (show i<1000000 by omega),ZA l[i] (by omega),OK,b_,cw]
 ·simp only[fe,b_,cw]
theorem Co(l:List cU)(a:l.length<=300):zde 5000 l l=some true:=by
 unfold zde;rw[if_neg (by simp)];refine lpT l (λi f h=>?_) (λf=>?_) (by omega)
 ·simp only[cS h,if_true,bZ h,Option.bind_some,bU (show i<1000000 by omega),Vi,OK,b_,cw]
 ·simp only[fe,b_,cw]
theorem LX(l:List ce)(d:l.length<=300)(b:∀a∈l,a.ae.length<=300):zeg 5000 l l=some true:=by
 unfold zeg;rw[if_neg (by simp)];refine lpT l (λi f h=>?_) (λf=>?_) (by omega)
 ·have:=b _ (bG h);simp only[gB,cS h,if_true,bZ h,Option.bind_some,bU (show i<1000000 by omega),yCi,MP,Co l[i].ae this,OK,b_,cw]
 ·simp only[fe,b_,cw]
theorem Pp(l:List kX)(a:l.length<=300):zen 5000 l l=some true:=by
 unfold zen;rw[if_neg (by simp)];refine lpT l (λi f h=>?_) (λf=>?_) (by omega)
 ·simp only[cS h,if_true,bZ h,Option.bind_some,bU (show i<1000000 by omega),beq_book,OK,b_,cw]
 ·simp only[fe,b_,cw]
theorem QD{s:bo}{st:cz}(a:lr s st):zeq 5000 st st=some true:=by have b:=a.bg;have d:=a.use;have e:=a.stamps;have f:=a.cu;unfold zeq;rw[if_pos (by simp),Vo _ (by omega) a.after,aD,if_pos rfl,LX _ a.cr a.sh,aD,if_pos rfl,Pp _ (by omega),aD,if_pos rfl,HF _ (by omega),aD,if_pos rfl,HF _ (by omega),aD];simp
end Go.Plain
end
section
namespace Go.Plain
open Go.Abs
theorem Mq{l:List aL}(h:cf l)(n:Nat):cf (l.take n):=λi a=>by rw[BY] at a;rw[Po,Po];exact h i (by omega)
theorem Wy{l:List aL}(d:l.length<=300)(hs:cf l){id:Int}(h:∀j∈l,j.Id<id):zaG 5000 l id=some ((l.length:Int),false):=by
 unfold zaG;have e:(bC (λb (a:Int×Int)=>
   if (decide (a.1<a.2))=true then
    (
     (aB l (i64.wrap (Int.fdiv (u64.wrap (i64.wrap (a.1+a.2))) (2 ^ 1)))).bind λg=>
     some (decide (g.Id≥id))).bind λk=>
    if (!k)=true then
     b ((i64.wrap ((i64.wrap (Int.fdiv (u64.wrap (i64.wrap (a.1+a.2))) (2 ^ 1)))+1)),a.2)
    else
     b (a.1,(i64.wrap (Int.fdiv (u64.wrap (i64.wrap (a.1+a.2))) (2 ^ 1))))
   else
    some a.1) 5000 (0,(l.length:Int)))=some (l.length:Int):=by
  refine bQ.eq (half d hs id (λj=>some (decide (j.Id<id))) (λj n=>rfl) (λi=>some i) (λi m o p=>?_) _ (λf x=>?_))
  ·rw[a_];rcases XX m with q | q
   ·grind
   ·rw[q]
  grind
 simp_all
theorem put_ok{l:List aL}{n:Nat}(hn:n<l.length)(d:l.length<=300)(hs:cf l){m:Int}(hm:(l.length:Int)<=m)(a:gy l[n]):zbW 5000 (l.take n) l[n] m=some (l.take (n+1),0):=by
 obtain ⟨r,e,h⟩:=Bx l[n];have b:=h.2 a;subst b;have f:=a.ny;have g:(l.take n).length=n:=by grind
 unfold zbW;rw[e,aD,if_neg (by simp),Wy (by omega) (Mq hs n) (λj a=>?_),aD]
 ·rw[if_neg (by simp),if_neg (by grind),DJ (by omega),aD];unfold zbl;have sl:slice? (l.take n) ((l.take n).length:Int) ((l.take n).length:Int)=some []:=by
   unfold slice?
   simp_all
  rw[sl,aD,if_neg (by simp),if_pos (by simp),zq (by grind),aD,aD,DC hn]
 ·obtain ⟨i,k,rfl⟩:=iX a;rw[Po];exact hs.lt (by omega) hn
def dx(F:List aC)(l:List ce):List aC:=l.foldl lc F
structure TInv (s:bo) (st:cz) (i:Nat) (x:Int×(List aC)×List (Int×ce)):Prop where
 ix:x.1=(i:Int)
 h:∃H,eY s st H (st.ai.drop i) x.2.1
 len:x.2.1.length=s.am.length
 Tl:∀r∈x.2.1,aM r
 m:x.2.2=mapA (st.ai.take i)
 fr:x.2.1=dx s.am (st.ai.take i)
theorem BW{s:bo}{st:cz}(q:ba s st):Ae st.ai:=by have h:=(po q.cr q.spec.nodes.ok).1;unfold Ae;rw[h];exact IR q.bg
theorem Hc{s:bo}{st:cz}(q:ba s st):∀a∈st.ai,0<=a.bj/\a.bj<=1048576:=λa b=>by
 obtain ⟨j,d,P⟩:=q.cr.mem a b;have:=(q.bg.each j d).ok.id
 grind [fj.CO]
theorem of_ok{s:bo}{st:cz}(d:lr s st)(q:ba s st):dG 5000 s st=some (.inr (st.aG.aq,st.aj,(st.ai.map λa=>(a.bj,a)),s.am,s.aF,s.aq,s.aO,s.ah.jb,s.ah.cH,s.ah.eR,s.ah.bB,s.bJ,s.Mode,s.aj,s.gU,s.aE,s.aW,s.cP,s.In,s.Out,s.bI,st.aT,st.Next,st.eo,st.ay,st.oF,st.aG.am,s.aj,dx s.am st.ai)):=by
 have S:=d.bg;have U:=d.cr;have hn:=d.spec.nodes;have O:=d.cu;have Z:=d.use;have hs:=d.stamps;obtain ⟨r,e,h⟩:=Oe d;have n:=h.2 q;subst n;have W:=q.bg.len;have A:=BW q;unfold dG;rw[e,aD,if_neg (by simp),new_ok d.spec q.spec,aD];dsimp only;refine bQ.eq ?_;refine iS st.aj.length (λi x=>x=((i:Int),st.aj.take i)) (λi x f g k n=>?_) (λx f k=>?_) rfl (by omega)
 ·subst k;simp only[cS g,if_true,bZ g,Option.bind_some,bU (show i<1000000 by omega),put_ok g S q.bg.bF W (q.bg.each _ (bG g)).ok,yCi,b_,cw]
  simp_all
 ·subst k;simp only[fe,b_,cw];refine iS st.ai.length (TInv s st) (λi x f g k n=>?_) (λx f k=>?_) ⟨rfl,⟨_,by rw[yCj];exact q.cr⟩,rfl,q.spec.nodes.ok,rfl,rfl⟩ (by omega)
  ·obtain ⟨X,F,M⟩:=x;obtain ⟨o,t,u,v,w,y⟩:=k;dsimp only at o t u v w y;subst o;have Q:=bG g;have E:=d.sh _ Q;obtain ⟨H,G⟩:=t;rw[yB1 g] at G;obtain ⟨j,Y,P⟩:=q.cr.mem _ Q;have K:=(q.bg.each j Y).ok;have L:xS F st.ai[i]/\∃R,eY s st R (st.ai.drop (i+1)) (lc F st.ai[i]):=by
    cases H with
    |nil=>cases (show st.ai[i]::st.ai.drop (i+1)=[] from G)
    |cons j' R=>
     obtain ⟨a',A',e',-,hf,n⟩:=G
     grind
   have free:∀b∈st.ai.take i,b.bj≠st.ai[i].bj:=λb O=>by
    obtain ⟨m,N,rfl⟩:=iX O;rw[BY] at N;rw[Po];have:=yAU.1 A m i (by grind) (by simp_all) (by omega)
    grind
   have T:vL M F st.ai[i]:=⟨by have:=K.id;have:=P.CO;omega,SX (by have:=K.many;have:=P.pp.Wb;omega),by rw[u];exact P.pp.shares,by rw[P.need];exact K.need,by grind [HP],L.1⟩;simp only[cS g,if_true,bZ g,Option.bind_some,bU (show i<1000000 by omega)];refine (KD (M:=M) (a:=st.ai[i]) (F:=F) (by omega) E v).bind λr p=>?_;have z:=p.1.2 T;obtain ⟨eM,bh⟩:=p.2 z;rw[z];simp only[yCi,b_,cw];refine n _ ⟨rfl,?_,?_,?_,?_,?_⟩
   ·grind [sF.eq]
   ·grind [sF.eq,zeL]
   ·grind [sF.eq,uQ]
   ·grind [Zf,List.take_succ_eq_append_getElem]
   grind [sF.eq,List.take_succ_eq_append_getElem,dx.eq_1]
  ·obtain ⟨X,F,M⟩:=x;obtain ⟨o,t,u,v,w,y⟩:=k;dsimp only at o t u v w y;subst o;simp only[fe,b_,cw];rw[show za5 5000 st.ay=some st.ay from FW (by omega),aD,show zbj 5000 st.oF=some st.oF from FW (by omega),aD,show zbj 5000 st.aG.aq=some st.aG.aq from FW (by omega),aD,a_];rw[w,y,uj,uj];rfl
theorem of_no{s:bo}{st:cz}(a:lr s st)(q:¬ba s st):dG 5000 s st=some (.inl 2):=by
 obtain ⟨r,e,h⟩:=Oe a;have:r=false:=by simp_all
 grind [Go.Abs.dG]
theorem shown{s:bo}{st:cz}(b:lr s st)(q:ba s st) :
  VR 5000 st.aG.aq st.aj (st.ai.map λa=>(a.bj,a)) st.aT st.Next st.eo st.ay st.oF st.aG.am=some st:=by
 have d:=b.bg;have e:=b.cu;have f:=b.use;have hs:=b.stamps;unfold VR;rw[LO (by omega) b.after,aD,show aY 5000 (st.ai.map λa=>(a.bj,a))=some st.ai from DY b.cr (BW q) (Hc q) b.sh,aD,CE (by omega),aD,sJ (by omega),aD,show zcb 5000 st.aG.aq=some st.aG.aq from FW (by omega),aD]
theorem TN{s:bo}{st:cz}(b:lr s st)(q:ba s st):cq 5000 s st=some (.inr (st.aG.aq,st.aj,(st.ai.map λa=>(a.bj,a)),true,s.am,s.aF,s.aq,s.aO,s.ah.jb,s.ah.cH,s.ah.eR,s.ah.bB,s.bJ,s.Mode,s.aj,s.gU,s.aE,s.aW,s.cP,s.In,s.Out,s.bI,st.aT,st.Next,st.eo,st.ay,st.oF,st.aG.am,s.aj,dx s.am st.ai)):=by obtain ⟨r,d,h⟩:=HT b;have e:=h.2 q;subst e;unfold cq;rw[of_ok b q,aD];dsimp only;rw[d,aD,if_neg (by simp),shown b q,aD,QD b,aD]
theorem VN{s:bo}{st:cz}(a:lr s st)(q:¬ba s st):cq 5000 s st=some (.inl true):=by
 obtain ⟨r,b,h⟩:=HT a;have:r=false:=by simp_all
 grind [Go.Abs.cq,of_no]
theorem nP{s:bo}(hs:mJ s) :
  zaO 5000 s.am s.aF s.aq s.aO s.ah.jb s.ah.cH s.ah.eR s.ah.bB s.bJ s.Mode s.aj s.gU s.aE s.aW s.cP s.In s.Out s.bI=some s:=by
 unfold zaO;rw[show zcZ 5000 _=some s from Dx hs];rfl
end Go.Plain
end
section
namespace Go.Plain
open Go.Abs
theorem wv{l:List Int}{n:Int}(h:iY l n):(l.length:Int)<=n∨l=[]:=by
 have a:∀i,i<l.length->(i:Int)<=l[i]!:=by
  intro i;induction i with
  |zero=>
   intro b;have:=(h 0 b).1
   grind [KV]
  |succ i ih=>
   intro b;have d:=ih (by omega);have e:=(h (i+1) b).1
   grind [rk]
 cases f:l.length with
 |zero=>simp_all
 |succ m=>
  left;have d:=a m (by omega);have e:=(h m (by omega)).2
  grind
theorem fZ{s:bo}(k:bp s):mJ s:={
 nodes:=by have:=k.nodes.hi;omega
 parts:=by have:=k.parts.hi;omega
 iu:=by have:=k.iu.hi;omega
 part:=λp a=>by
  have b:=wv (k.parts.ok p a).2;have:=k.nodes.hi
  grind
 queue:=λq hq=>by
  have b:=wv (k.iu.ok q hq).AX;have:=k.AX
  grind }
theorem jG{l:List cU}{n:Int}(h:bn l n)(hn:0<=n):(l.length:Int)<=n:=by
 rcases wv h.node with a | a
 ·simp_all
 simp_all
theorem VF{s:bo}{st:cz}(q:ba s st):lr s st:={
 spec:=fZ q.spec
 bg:=by have:=q.bg.len;have:=q.spec.bg;omega
 after:=λj b=>by have:=(q.bg.each j b).ok.ny;omega
 cr:=by have h:=(po q.cr q.spec.nodes.ok).1;have d:=Dr List.length h;simp only[wj] at d;have f:(st.aj.filter sU).length<=st.aj.length:=List.length_filter_le _ _;have:=q.bg.len;have:=q.spec.bg;omega
 cu:=by have:=q.gM.cu.len;omega
 use:=by have:=q.use.len;have:=q.spec.AX;omega
 stamps:=by have:=q.use.qlen;have:=q.spec.iu.hi;omega
 shares:=λa e=>by obtain ⟨j,b,P⟩:=q.cr.mem a e;have g:=jG P.pp.shares (by omega);have:=q.spec.nodes.hi;omega }
end Go.Plain
end
section
namespace Go.Plain
open Go.Abs
theorem UG{u:oA}{k t a:Int}(h:a<=t)(b:¬(a<u.bK/\u.bK<=t))(d:¬(a<u.To/\u.To<=t)):jJ u k t=jJ u k a:=by
 unfold jJ
 grind
theorem Js{L:List oA}{k t a:Int}(h:∀u∈L,jJ u k t=jJ u k a):aN L k t=aN L k a:=by
 unfold aN;have:∀(M:List oA)(r:aC),(∀u∈M,jJ u k t=jJ u k a)->M.foldl (λr u=>BP r (jJ u k t)) r=M.foldl (λr u=>BP r (jJ u k a)) r:=by
  intro M;induction M with
  |nil=>simp_all
  |cons u M ih=>simp_all
 simp_all
theorem vk{q:fo}{k t a:Int}(i:q.aT<=a)(h:a<=t)(e:∀x,q.aT<=x->timeV q x->¬(a<x/\x<=t)):bq q k t=bq q k a:=by
 have j:aN q.L k t=aN q.L k a:=Js λu f=>UG h (λg=>e u.bK (by omega) (.inr (.inl ⟨u,f,.inl rfl⟩)) g) λg=>e u.To (by omega) (.inr (.inl ⟨u,f,.inr rfl⟩)) g;have m:Dd q.ay k t↔Dd q.ay k a:=by
  constructor
  ·rintro ⟨b,d,h1,h2,h3⟩;refine ⟨b,d,h1,?_,by omega⟩;rcases yBS a b.bK with g | g
   ·exact absurd ⟨g,h2⟩ (e b.bK (by omega) (.inr (.inr ⟨b,d,.inl rfl⟩)))
   omega
  ·rintro ⟨b,d,h1,h2,h3⟩;refine ⟨b,d,h1,by omega,?_⟩;rcases yBS t b.To with g | g
   ·exact g
   ·exact absurd ⟨h3,g⟩ (e b.To (by omega) (.inr (.inr ⟨b,d,.inr rfl⟩)))
 unfold bq
 grind
theorem wJ(T:List Int){a t:Int}(h:a<=t):∃x,(x=a∨x∈T)/\a<=x/\x<=t/\∀y∈T,y<=t->y<=x:=by
 induction T with
 |nil=>simp_all
 |cons y T ih=>grind
structure Cu (q:fo) (a b:Int) (F:List aC):Prop where
 len:F.length=q.S.am.length
 low:∀(k:Nat)(h:k<F.length),Rj (λt v=>v=bq q k t) a b F[k]
structure dM (q:fo) (w:A_):Prop where
 part:0<=w.Part/\w.Part<q.S.aF.length
 many:w.aK<=100000
 need:aM w.az
 nU:w.az≠bR
 wall:1<=w.aU/\w.aU<=65536
def bX(q:fo)(w:A_):List Int:=(q.S.aF[w.Part.toNat]?).getD []
theorem g_{q:fo}{w:A_}(h:dM q w):aB q.S.aF w.Part=some (bX q w)/\bX q w∈q.S.aF:=by
 obtain ⟨a,e⟩:=Gm h.part.1 h.part.2;have:bX q w=q.S.aF[w.Part.toNat]:=by grind [bX]
 simp_all
def Zx(q:fo):Prop:=∀(k t:Int),0<=k->k<q.S.am.length->q.aT<=t->aM (bq q k t)
theorem Kd{V:Int->aC->Prop}{a b:Int}{r:aC}(h:Rj V a b r)(d:∀t v,a<=t->V t v->aM v):aM r:=vC.2 λc=>by
 obtain ⟨t,v,f,g,i,e⟩:=h.cD c
 grind [vC]
theorem AB{F:List aC}{k:Nat}(h:k<F.length):ee F (k:Int)=F[k]:=by grind [ee]
theorem IJ{q:fo}(hq:iV q){w:A_}(b:dM q w){F:List aC}(f:F.length=q.S.am.length)(d:∀n∈bX q w,aM (ee F n)):ib F (bX q w):=by obtain ⟨_,a⟩:=g_ b;have e:=hq.spec.parts.ok _ a;have hs:=(fZ hq.spec).part _ a;refine ⟨by omega,λn hn=>?_,d⟩;have:=e.2.mem n hn;omega
theorem pf_when{q:fo}(hq:iV q)(P:Zx q){w:A_}(b:dM q w){t:Int}(h0:q.aT<=t)(ht:t<=1099511627776) :
  bQ (TY 5000 q w t) λr=>∃F,Cu q t (t+w.aU) F/\r=wh F (bX q w) w.aK w.az:=by
 have nn:=hq.spec.nodes.hi;have Q:=hq.now;have wl:=b.wall;unfold TY;rw[if_neg (by have:=b.part;simp_all),wr (x:=t+w.aU) (by omega) (by omega)];refine (NN hq).bind λT A=>?_;have tl:=A.len;refine iS q.S.am.length (λi x=>x.1=(i:Int)/\x.2.length=i/\∀(k:Nat)(h:k<x.2.length),Rj (λt v=>v=bq q k t) t (t+w.aU) x.2[k]) (λi x f E a R=>?_) (λx f a=>?_) ⟨rfl,rfl,λk h=>by simp at h⟩ (by omega)
 ·obtain ⟨y,F⟩:=x;obtain ⟨rfl,d,m⟩:=a;dsimp only at d m ⊢;rw[if_pos (cS E)];refine (Rx hq E (by omega)).bind λr e=>?_;rw[e];refine iS T.length (λj x=>∃v:aC,x=((j:Int),v.bP,v.Mem,v.bS,v.bT)/\GH (bq q i t::((T.take j).filter λy=>decide (t<y/\y<t+w.aU)).map (bq q i)) v) (λj x S p a G=>?_) (λx S a=>?_) ⟨bq q i t,rfl,GH.one _⟩ (by omega)
  ·obtain ⟨v,rfl,o⟩:=a;simp only[gB];rw[if_pos (cS p)];simp only[bZ p,Option.bind_some];rw[bU (show j<1000000 by omega)];have O:(T.take (j+1)).filter (λy=>decide (t<y/\y<t+w.aU))=(T.take j).filter (λy=>decide (t<y/\y<t+w.aU))++(if t<T[j]/\T[j]<t+w.aU then [T[j]] else []):=by
    rw[DC p,List.filter_append]
    grind
   have tm:=(A.mem T[j]).1 (bG p);by_cases g:t<T[j]
   ·rw[if_pos (by simp_all)];by_cases U:T[j]<t+w.aU
    ·rw[if_pos (by simp_all)];refine (Rx hq E (t:=T[j]) (by omega)).bind λs W=>?_;have K:zcY 5000 ({ bP:=v.bP,Mem:=v.Mem,bS:=v.bS,bT:=v.bT }:aC) s.1=some (vH v s.1):=YC v s.1;rw[K,aD];rw[if_pos ⟨g,U⟩] at O;refine G _ ⟨vH v s.1,rfl,?_⟩;rw[O,Yb,<-List.cons_append,W];exact o.add _
    grind
   grind
  ·obtain ⟨v,rfl,o⟩:=a;dsimp only;rw[if_neg (by simp)];rw[uj] at o;have K:cA F ([({ bP:=v.bP,Mem:=v.Mem,bS:=v.bS,bT:=v.bT }:aC)]:List aC)=some (F++[v]):=zq (by grind);rw[K,aD,bU (show i<1000000 by omega)];have low:Rj (λt v=>v=bq q i t) t (t+w.aU) v:=by
    refine ⟨λu x X h2 e c=>?_,λc=>?_⟩
    ·obtain ⟨z,z1,z2,Y,Z⟩:=wJ T X;have hc:bq q i u=bq q i z:=vk (by omega) Y λy L M N=>by
      have:=Z y ((A.mem y).2 ⟨L,M⟩) N.2;omega
     rw[e,hc];refine o.le _ ?_ c
     grind
    ·obtain ⟨x,a,e⟩:=o.cD c
     grind
   grind
 ·obtain ⟨y,F⟩:=x;obtain ⟨rfl,d,m⟩:=a;dsimp only at d m ⊢;obtain ⟨ep,hm⟩:=g_ b;have hP:ib F (bX q w):=IJ hq b d λn hn=>by
   have kp:=(hq.spec.parts.ok _ hm).2.mem n hn;have e:ee F n=F[n.toNat]:=(pO kp.1 (by omega)).2.2;rw[e];exact Kd (m n.toNat (by omega)) λu x hu a=>by rw[a];exact P _ u (by omega) (by omega) (by omega)
  rw[if_neg (by simp),ep,aD,XA hP b.need b.nU b.many,aD,a_];exact ⟨F,⟨d,m⟩,rfl⟩
structure PR (nodes:List (List bO)) (q:fo) (L:Nat):Prop where
 len:nodes.length=q.S.am.length
 cD:Du nodes q.aT L
 val:∀(k:Nat)(h:k<nodes.length)(t:Int),q.aT<=t->yE nodes[k] t (bq q k t)
theorem PR.right{i:List (List bO)}{q:fo}{L:Nat}(h:PR i q L):Zx q:=λk t s hk o=>by
 have j:k.toNat<i.length:=by grind [PR.len]
 have:=(h.val k.toNat j t o).ok (h.cD.each _ j).1
 grind
theorem PR.iff{i:List (List bO)}{q:fo}{L:Nat}(h:PR i q L){k:Nat}(hk:k<i.length){t:Int}(j:q.aT<=t){v:aC}:yE i[k] t v↔v=bq q k t:=
 ⟨λo=>o.BG (h.cD.each k hk).1 (h.val k hk t j),λe=>by rw[e];exact h.val k hk t j⟩
theorem IX{b:List (List bO)}{q:fo}{L:Nat}(S:L<=900)(hq:iV q)(j:PR b q L){w:A_}(e:dM q w){t:Int}(T:q.aT<=t)(U:t<=1099511627776) :
  bQ (zaK 5000 b w.Part w.aK w.az w.aU t q.aT q.S.aF) λr=>∃F,F.length=q.S.am.length/\(∀n∈bX q w,Rj (λu v=>v=bq q n u) t (t+w.aU) (ee F n))/\r=wh F (bX q w) w.aK w.az:=by
 have nn:=hq.spec.nodes.hi;have N:=hq.now;have W:=e.wall;obtain ⟨O,G⟩:=g_ e;have z:=hq.spec.parts.ok _ G;have pl:=(fZ hq.spec).part _ G;have P:=j.right;unfold zaK;rw[if_neg (by have:=e.part;simp_all),wr (x:=t+w.aU) (by omega) (by omega),Zo _ (by grind [PR.len]),aD,O,aD];have K:=j.len;refine iS (bX q w).length (λi x=>x.1=(i:Int)/\x.2.length=b.length/\∀n∈(bX q w).take i,Rj (λu v=>v=bq q n u) t (t+w.aU) (ee x.2 n)) (λi x f p m A=>?_) (λx f m=>?_) ⟨rfl,by simp,λn h=>by simp at h⟩ (by omega)
 ·obtain ⟨y,F⟩:=x;obtain ⟨rfl,s,o⟩:=m;dsimp only at s o ⊢;have hn:=z.2.mem _ (bG p);obtain ⟨k,Q⟩:∃k:Nat,(bX q w)[i]=(k:Int):=⟨((bX q w)[i]).toNat,by omega⟩;have hk:k<b.length:=by omega
  obtain ⟨M,lk⟩:=j.cD.each k hk;have f0:=j.cD.first k hk M.ne;rw[if_pos (cS p),bZ p,aD,Q,bZ hk,aD];refine (LH (by omega) M (a:=t) (by omega) (show t<t+w.aU by omega)).bind λr E=>?_;rw[bZ (show k<F.length by omega),aD,bU (show i<1000000 by omega),xAc];refine A _ ⟨rfl,by simp[s],λn d=>?_⟩;have low:Rj (λu v=>v=bq q k u) t (t+w.aU) r:=E.iff λu v R=>j.iff hk (by omega);dsimp only;by_cases g:n=(k:Int)
  ·grind [AB]
  ·have:ee (F.set k r) n=ee F n∨n<0:=by
    grind [ee]
   rw[DC p,gp,zi] at d;rcases d with d | d
   ·have nb:=z.2.mem n (OH d)
    grind
   omega
 ·obtain ⟨y,F⟩:=x;obtain ⟨rfl,s,o⟩:=m;dsimp only at s o ⊢;rw[uj] at o;have hP:ib F (bX q w):=IJ hq e (by omega) λn hn=>by
   have nb:=z.2.mem n hn;exact Kd (o n hn) λu x R m=>by rw[m];exact P n u (by omega) (by omega) (by omega)
  rw[if_neg (by simp),aD,Z_ hP e.need e.nU e.many,aD,a_]
  grind
theorem wg{a:List (List bO)}{q:fo}{L:Nat}(s:L<=900)(hq:iV q)(g:PR a q L){w:A_}(d:dM q w){t:Int}(h:q.aT<=t)(i:t<=1099511627776) :
  ∃F,Cu q t (t+w.aU) F/\ib F (bX q w)/\zaK 5000 a w.Part w.aK w.az w.aU t q.aT q.S.aF=some (wh F (bX q w) w.aK w.az)/\TY 5000 q w t=some (wh F (bX q w) w.aK w.az):=by
 have j:=g.right;have v:=hq.now;obtain ⟨r,e,F,f,rfl⟩:=pf_when hq j d h i;obtain ⟨K,k,G,M,b,rfl⟩:=IX s hq g d h i;obtain ⟨N,y⟩:=g_ d;have m:=hq.spec.parts.ok _ y;have o:∀n∈bX q w,ee G n=ee F n:=λn hn=>by have nb:=m.2.mem n hn;obtain ⟨z,_,A⟩:=pO (F:=F) nb.1 (by grind [Cu.len]);have p:=f.low n.toNat z;rw[yBM nb.1] at p;rw[A];exact (b n hn).BG p
 rw[Je o] at k;refine ⟨F,f,IJ hq d f.len λn hn=>?_,k,e⟩;have nb:=m.2.mem n hn;rw[<-o n hn];exact Kd (b n hn) λu x O E=>by rw[E];exact j n u (by omega) (by omega) (by omega)
end Go.Plain
end
