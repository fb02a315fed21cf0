/- TyL4, TyL5, TyP8, TyP9, TyPA, TyL6, TyPB, TyPC, TyPD, TyS1, TyL7 -/
import Derived.Test.YtdfbphphacpkdaaGreatLawA
set_option linter.all false
open Go.IntKind (i64 u64)
section
namespace Go.Plain
open Go.Abs
theorem XS{α:Type}(z:α){n:Nat}(h:n<=1000000):FG z (n:Int) (n:Int)=some (List.replicate n z):=by
 unfold FG
 grind
theorem Un(v:aE)(need:aE):fo v (mulR 0 need)=v:=dU λc=>by rw[Cq,Bn];omega
theorem HM(v a b:aE):fo (fo v a) b=fo v (AP a b):=dU λc=>by simp only[Cq,vZ];omega
theorem OC.none{l:List bW}(hs:dJ l)(a b:Int)(need:aE):OC l a b (mulR 0 need) l:=
 ⟨hs,by omega,λ_ _=>rfl,λt v h=>by rw[Un,ite_self];exact h⟩
structure Df (nodes:List (List bW)) (now:Int) (L:Nat):Prop where
 each:∀k (h:k<nodes.length),dJ nodes[k]/\nodes[k].length<=L
 first:∀k (h:k<nodes.length) (h':0<nodes[k].length),nodes[k][0].At=now
theorem zr{l:List cV}{n:Int}(h:∀y∈l,y.Node≠n):dM l n=0:=by
 induction l with
 |nil=>simp[dM]
 |cons y l ih=>
  have a:=ih λz hz=>h z (pM _ hz);simp only[dM,sH,List.sum_cons] at a ⊢
  simp_all
theorem Bv{l:List cV}{n:Int}(h:ba l n){i j:Nat}(a:i<j)(b:j<l.length):l[i].Node<l[j].Node:=by
 induction j with
 |zero=>omega
 |succ j ih=>
  have s:=(h (j+1) b).up
  grind [qN]
theorem JV{l:List cV}{n:Int}(h:ba l n){i:Nat}(d:i<l.length):dM l l[i].Node=l[i].aL:=by
 have e:=Sf (l:=l.take (i+1)) (m:=l.drop (i+1)) l[i].Node;have f:dM (l.take i) l[i].Node=0:=zr λy a=>by obtain ⟨j,b,rfl⟩:=Oe.1 a;rw[Cs] at b;rw[Sn];have:=Bv h (show j<i by omega) d;omega
 have g:dM (l.drop (i+1)) l[i].Node=0:=zr λy a=>by obtain ⟨j,b,rfl⟩:=Oe.1 a;rw[yBK] at b;rw[yBT];have:=Bv h (show i<i+1+j by omega) (by omega);omega
 rw[NW,nr d,f,g,if_pos rfl] at e;omega
theorem Qn{l:List cV}{n:Int}(h:ba l n){i:Nat}(a:i<l.length):dM (l.take i) l[i].Node=0:=zr λy b=>by obtain ⟨j,d,rfl⟩:=Oe.1 b;rw[Cs] at d;rw[Sn];have:=Bv h (show j<i by omega) a;omega
theorem Ca{d:List (List bW)}{m:Int}{L:Nat}(hL:L<=900)(E:Df d m L)(hn:d.length<=40){a b:Int}{l:List cV}{need:aE}(w:ba l d.length)(X:l.length<=300)(O:aM need)
  (h0:m<=a) (n:a<b) (y:b<=281474976710656) (o:∀k (h:k<d.length) t v,a<=t->t<b->yE d[k] t v->xE (mulR (dM l k) need) v) :
  bM (zbc 5000 d a b l need) λr=>r.2=0/\r.1.length=d.length/\∀k (h:k<d.length) (P:k<r.1.length),OC d[k] a b (mulR (dM l k) need) r.1[k]:=by
 unfold zbc;rw[XS _ (by omega),aD];have node:∀i (e:i<l.length),∃k:Nat,l[i].Node=(k:Int)/\k<d.length:=λi e=>by obtain ⟨Q,Y,_⟩:=w.mem _ (bC e);exact ⟨l[i].Node.toNat,by omega,by omega⟩
 refine jb l.length (λi x=>∃T:List (List bW),x=((i:Int),T)/\T.length=l.length/\∀j (hj:j<l.length) (R:j<T.length) (k:Nat) (hk:k<d.length),j<i->l[j].Node=(k:Int)->OC d[k] a b (mulR l[j].aL need) T[j]) (λi x f e g S=>?_) (λx f g=>?_)
  ⟨_,rfl,List.length_replicate ..,λj _ _ _ _ h=>by omega⟩ (by omega)
 ·obtain ⟨T,rfl,R,Z⟩:=g;obtain ⟨k,p,hk⟩:=node i e;have sh:=w.mem _ (bC e);dsimp only;rw[if_pos (cK e),bV e,aD];have G:dM l k=l[i].aL:=by grind [JV]
  have fk:=o k hk;rw[G] at fk;obtain ⟨A,lk⟩:=E.each k hk;have f0:=E.first k hk A.ne;have U:aM (mulR l[i].aL need):=by obtain ⟨v,s⟩:=yE.ex A (t:=a) (by omega);have:=fk a v (PT _) n s;refine vY.2 λc=>?_;have Q:=this c;have Y:=vY.1 (s.ok A) c;have h3:=vY.1 O c;rw[Bn] at Q ⊢;have:=yBL (show 0<=l[i].aL by omega) h3.1;omega
  refine (NK O ⟨sh.2.2.1,sh.2.2.2⟩).bind λr u=>?_;have z:=u.1.2 U;rw[if_neg (by simp[z]),u.2 z,p,bV hk,aD];refine (xL (by omega) A U (by omega) n y fk).bind λr2 aa=>?_;rw[bV (show i<T.length by omega),aD,if_neg (by simp_all),bS (show i<1000000 by omega),xAc]
  grind
 ·obtain ⟨T,rfl,R,Z⟩:=g;dsimp only;rw[if_neg (by simp)];refine jb l.length (λi x=>∃M:List (List bW),x=((i:Int),M)/\M.length=d.length/\∀k (h:k<d.length) (P:k<M.length),OC d[k] a b (mulR (dM (l.take i) k) need) M[k]/\(dM (l.take i) k=0->M[k]=d[k])) (λi x f e g S=>?_) (λx f g=>?_)
   ⟨_,rfl,rfl,λk h _=>⟨by simpa[dM] using OC.none (E.each k h).1 a b need,λ_=>rfl⟩⟩ (by omega)
  ·obtain ⟨M,rfl,W,hB⟩:=g;obtain ⟨k,p,hk⟩:=node i e;dsimp only;rw[if_pos (cK e),bV e,aD,bV (show i<T.length by omega),aD,p,bV (show k<M.length by omega),aD,bS (show i<1000000 by omega),xAc];refine S _ ⟨_,rfl,by simp[W],λK h P=>?_⟩;have y:=Qn w e;rw[p] at y;by_cases q:k=K
   ·subst q;have N:(M.set k T[i])[k]=T[i]:=yB1 _;rw[nr e,y,if_pos p,Int.zero_add,N];have sh:=w.mem _ (bC e)
    grind
   ·have N:(M.set k T[i])[K]=M[K]'(by omega):=yB8 q _;rw[nr e,if_neg (by omega),Int.add_zero,N]
    simp_all
  ·obtain ⟨M,rfl,W,hB⟩:=g;dsimp only;rw[if_neg (by simp),aZ]
   simp_all
end Go.Plain
end
section
namespace Go.Plain
open Go.Abs
def kz(F:List aE)(n:Int):aE:=(F[n.toNat]?).getD bU
def cQ(F:List aE)(l:List Int)(need:aE):Int:=(l.map λn=>dG (kz F n) need).sum
def HD(left c:Int):Int:=if left<c then left else c
def ZV(F:List aE)(need:aE)(x:Int×List cV)(n:Int):Int×List cV:=
 if HD x.1 (dG (kz F n) need)=0 then x else (x.1-HD x.1 (dG (kz F n) need),x.2++[{ Node:=n,aL:=HD x.1 (dG (kz F n) need) }])
def rY(F:List aE)(need:aE)(l:List Int)(many:Int):Int×List cV:=l.foldl (ZV F need) (many,[])
def CL(F:List aE)(l:List Int)(many:Int)(need:aE):List cV×Bool:=if many<1∨cQ F l need<many then ([],false) else ((rY F need l many).2,true)
theorem yt{F:List aE}{n:Int}(b:0<=n)(h:n<F.length):∃a:n.toNat<F.length,aB F n=some (kz F n)/\kz F n=F[n.toNat]'a:=by grind [Eh,kz]
structure pz (F:List aE) (l:List Int):Prop where
 yY:l.length<=300
 node:∀n∈l,0<=n/\n<F.length
 ZF:∀n∈l,aM (kz F n)
section
variable{F:List aE}{l:List Int}{need:aE}(hP:pz F l)(hn:aM need)(hz:need≠bU)
include hP hn
theorem ow{n:Int}(h:n∈l):0<=dG (kz F n) need/\dG (kz F n) need<=64:=Pu (hP.ZF n h) hn
theorem Yx:0<=cQ F l need/\cQ F l need<=64 * l.length:=by
 have:∀(m:List Int),(∀x∈m,x∈l)->0<=cQ F m need/\cQ F m need<=64 * m.length:=by
  intro m;induction m with
  |nil=>grind [cQ]
  |cons x m ih=>
   intro h;have b:=ih λy a=>h y (pM _ a);have:=ow hP hn (h x (sq ..))
   grind [cQ]
 simp_all
include hz
theorem WM{n:Int}(h:n∈l):pY 5000 F n need=some (dG (kz F n) need):=by have a:=hP.node n h;obtain ⟨_,e,_⟩:=yt a.1 a.2;unfold pY;rw[if_neg (by simp_all),e,aD,count (hP.ZF n h) hn hz,aD]
theorem yS{i:Nat}(a:i<l.length):cQ F (l.take (i+1)) need=cQ F (l.take i) need+dG (kz F l[i]) need:=by grind [List.take_succ_eq_append_getElem,cQ]
theorem yd{i:Nat}:0<=cQ F (l.take i) need/\cQ F (l.take i) need<=64 * 300:=by
 have h:=Yx (F:=F) (l:=l.take i) (need:=need) ⟨by grind [pz.yY],λn h=>hP.node n (Qo h),λn h=>hP.ZF n (Qo h)⟩ hn
 grind [pz.yY]
theorem VP:rB 5000 F l need=some (cQ F l need):=by
 have e:=hP.yY;unfold rB;refine bM.eq (jb l.length (λi x=>x=(cQ F (l.take i) need,(i:Int))) (λi x f a d g=>?_) (λx f d=>?_) (by simp[cQ]) (by omega))
 ·subst d;have c:=ow hP hn (bC a);have b:=yd hP hn hz (i:=i);dsimp only;rw[if_pos (cK a),bV a,aD,WM hP hn hz (bC a),aD,bS (show i<1000000 by omega),wr (by omega) (by omega)]
  grind [yS]
 ·subst d;dsimp only;rw[if_neg (by simp),aZ,xA]
theorem pf_room:gz 5000 F l need=some (cQ F l need):=by
 have h:=hP.yY;unfold gz;refine bM.eq (jb l.length (λi x=>x=(cQ F (l.take i) need,(i:Int))) (λi x f a d j=>?_) (λx f d=>?_) (by simp[cQ]) (by omega))
 ·subst d;have c:=ow hP hn (bC a);have b:=yd hP hn hz (i:=i);have g:=hP.node _ (bC a);obtain ⟨_,e,_⟩:=yt g.1 g.2;simp only[dW];rw[if_pos (cK a)];simp only[bV a,Option.bind_some];rw[if_pos (by simp_all),if_pos (by simp_all),e,aD,Bz (hP.ZF _ (bC a)) hn hz,aD,bS (show i<1000000 by omega),wr (by omega) (by omega)]
  grind [yS]
 ·subst d;dsimp only;rw[if_neg (by simp),aZ,xA]
theorem ur{i:Nat}(a:i<l.length)(many:Int):rY F need (l.take (i+1)) many=ZV F need (rY F need (l.take i) many) l[i]:=by grind [rY,List.take_succ_eq_append_getElem]
theorem SK{many:Int}(hm:1<=many/\many<=100000)(i:Nat):(0<=(rY F need (l.take i) many).1/\(rY F need (l.take i) many).1<=many)/\(rY F need (l.take i) many).2.length<=i:=by
 induction i with
 |zero=>grind [rY]
 |succ i ih=>
  by_cases a:i<l.length
  ·have c:=ow hP hn (bC a);rw[ur hP hn hz a];unfold ZV;by_cases q:HD (rY F need (l.take i) many).1 (dG (kz F l[i]) need)=0
   ·grind
   ·rw[if_neg q]
    grind [HD]
  grind [List.take_of_length_le]
theorem MJ{many:Int}(i:Nat)(h:(rY F need (l.take i) many).1=0):(rY F need l many).2=(rY F need (l.take i) many).2:=by
 have:∀n,rY F need (l.take (i+n)) many=rY F need (l.take i) many:=by
  intro n;induction n with
  |zero=>rfl
  |succ n ih=>
   by_cases a:i+n<l.length
   ·have c:=ow hP hn (bC a);rw[<-Nat.add_assoc,ur hP hn hz a,ih];unfold ZV HD
    grind
   grind [List.take_of_length_le]
 have:=this l.length
 grind [List.take_of_length_le]
theorem XV{many:Int}(hm:many<=100000):zep 5000 F l many need=some (CL F l many need):=by
 have j:=hP.yY;unfold zep CL;simp only[dW];by_cases k:many<1
 ·simp_all
 rw[if_neg (by simp_all),VP hP hn hz,aD];by_cases m:cQ F l need<many
 ·simp_all
 rw[if_neg (by simp_all),if_neg (by omega)];refine bM.eq (jb l.length (λi x=>x=((rY F need (l.take i) many).1,(i:Int),(rY F need (l.take i) many).2)) (λi x f a b d=>?_) (λx f b=>?_) (by simp[rY]) (by omega))
 ·subst b;have c:=ow hP hn (bC a);have g:=SK hP hn hz (many:=many) ⟨by omega,hm⟩ i;have st:=ur hP hn hz a many;dsimp only;rw[if_pos (cK a),bV a,aD,WM hP hn hz (bC a),aD,bp];refine ⟨λh=>?_,λh=>?_⟩
  ·grind [aZ,MJ]
  ·rw[bS (show i<1000000 by omega)];unfold ZV at st;rw[bp];refine ⟨λh=>?_,λh=>?_⟩
   ·rw[if_pos (show HD _ _=0 by grind [HD])] at st
    simp_all
   ·rw[if_neg (show ¬HD _ _=0 by grind [HD])] at st;rw[Aw (by grind),aD];have e:i64.wrap ((rY F need (l.take i) many).1-(if (rY F need (l.take i) many).1<dG (kz F l[i]) need then (rY F need (l.take i) many).1 else dG (kz F l[i]) need))=(rY F need (l.take i) many).1-HD (rY F need (l.take i) many).1 (dG (kz F l[i]) need):=by
     grind [HD,wr]
    rw[e];exact d _ (by rw[st];rfl)
 ·subst b;dsimp only;rw[if_neg (by simp),aZ,xA]
theorem Xp{many:Int}(hm:many<=100000):zc7 5000 F l many need=some (CL F l many need):=by
 have m:=hP.yY;unfold zc7 CL;simp only[dW];by_cases n:many<1
 ·simp_all
 rw[if_neg (by simp_all),pf_room hP hn hz,aD];by_cases o:cQ F l need<many
 ·simp_all
 rw[if_neg (by simp_all),if_neg (by omega)];refine bM.eq (jb l.length (λi x=>x=((rY F need (l.take i) many).1,(i:Int),(rY F need (l.take i) many).2)) (λi x f a d p=>?_) (λx f d=>?_) (by simp[rY]) (by omega))
 ·subst d;have c:=ow hP hn (bC a);have j:=SK hP hn hz (many:=many) ⟨by omega,hm⟩ i;have st:=ur hP hn hz a many;have g:=hP.node _ (bC a);obtain ⟨_,e,_⟩:=yt g.1 g.2;dsimp only;rw[bp];refine ⟨λh=>?_,λh=>?_⟩
  ·simp only[bH,br] at h;rw[bV a,aD,if_neg (by simp_all),aD,if_neg (by simp_all),aD,e,aD,Bz (hP.ZF _ (bC a)) hn hz,aD,bS (show i<1000000 by omega)];unfold ZV HD at st;rw[bp];refine ⟨λb=>?_,λb=>?_⟩
   ·simp only[br] at b;rw[if_pos (show (rY F need (l.take i) many).1<dG (kz F l[i]) need from b),if_neg (by omega)] at st;rw[if_pos (by simp_all),aD,Aw (by grind),aD,wr (x:=_-_) (by omega) (by omega)]
    simp_all
   ·simp only[br] at b;rw[if_neg (show ¬(rY F need (l.take i) many).1<dG (kz F l[i]) need from b)] at st;rw[wr (x:=_-_) (by omega) (by omega)];by_cases k:dG (kz F l[i]) need=0
    ·simp_all
    ·rw[if_neg k] at st;rw[if_pos (by grind),aD,Aw (by grind),aD]
     simp_all
  ·rw[aZ,MJ hP hn hz i]
   grind
 ·subst d;dsimp only;rw[if_neg (by simp),aZ,xA]
end
theorem Kr{F G:List aE}{l:List Int}(h:∀n∈l,kz F n=kz G n)(many:Int)(need:aE):CL F l many need=CL G l many need:=by
 have a:cQ F l need=cQ G l need:=by grind [cQ,List.map_congr_left]
 have b:∀(m:List Int)(x:Int×List cV),(∀n∈m,n∈l)->m.foldl (ZV F need) x=m.foldl (ZV G need) x:=by
  intro m;induction m with
  |nil=>simp_all
  |cons n m ih=>grind [ZV]
 grind [CL,rY]
theorem Tj{a b need:aE}(k:aM a)(m:aM b)(hn:aM need)(h:xE a b):dG a need<=dG b need:=by
 have f:=vK k hn;have n:=vK m hn;rcases yCl (dG b need) (dG a need) with q | q
 ·obtain ⟨p,g,d⟩:=n.max (by have:=f.hi;omega);have e:∀(x y:Int×Int),x.2=y.2->x.1<=y.1->0<=y.2->x∈FJ a need->y.1<(dG b need+1) * y.2->False:=λx y s t o r d=>by
   have:=f.fit x r;have u:(dG b need+1) * y.2<=dG a need * y.2:=yAQ (by omega) o
   grind
  have f0:=h 0;have f1:=h 1;have i:=h 2;have j:=h 3;simp only[cmp] at f0 f1 i j;have:=hn.FY;have:=hn.mem;have:=hn.IW;have:=hn.Ky;simp only[FJ,gn,Ly,Mg] at g;rcases g with rfl | rfl | rfl | rfl
  ·exact (e (a.bL,need.bL) (b.bL,need.bL) rfl f0 (by omega) (by simp[FJ]) d).elim
  ·exact (e (a.Mem,need.Mem) (b.Mem,need.Mem) rfl f1 (by omega) (by simp[FJ]) d).elim
  ·exact (e (a.bO,need.bO) (b.bO,need.bO) rfl i (by omega) (by simp[FJ]) d).elim
  ·exact (e (a.bR,need.bR) (b.bR,need.bR) rfl j (by omega) (by simp[FJ]) d).elim
 omega
theorem Po{F G:List aE}{l:List Int}{need:aE}(d:pz F l)(e:pz G l)(hn:aM need)(h:∀n∈l,xE (kz F n) (kz G n)):cQ F l need<=cQ G l need:=by
 have:∀(m:List Int),(∀x∈m,x∈l)->cQ F m need<=cQ G m need:=by
  intro m;induction m with
  |nil=>grind [cQ]
  |cons x m ih=>
   intro b;have g:=ih λy f=>b y (pM _ f);have a:=b x (sq ..);have:=Tj (d.ZF x a) (e.ZF x a) hn (h x a)
   grind [cQ]
 simp_all
theorem AJ{F:List aE}{l:List Int}{many:Int}{need:aE}:(CL F l many need).2=true↔1<=many/\many<=cQ F l need:=by grind [CL]
end Go.Plain
end
section
namespace Go.Plain
open Go.Abs
def s_(j:aK):Bool:=(j.State == 3) || (j.State == 4)
theorem hasJ_lt{j:aK}(h:s_ j=true):j.State<5:=by simp only[s_,gq,nK] at h;omega
structure e_ (s:bm) (st:cf) (j:aK) (a:bF):Prop where
 Fs:a.aV=j.Id
 need:a.az=j.az
 ny:jC s j a.ae
 now:st.aR<j.Start+j.aW
def kP(F:List aE)(a:bF):List aE:=F.mapIdx (qy a)
theorem zeP{F:List aE}{a:bF}:(kP F a).length=F.length:=by simp[kP]
theorem mf{F:List aE}{a:bF}{i:Nat}(h:i<(kP F a).length):(kP F a)[i]=qy a i (F[i]'(by grind [zeP])):=by simp[kP]
theorem rH.eq{F G:List aE}{a:bF}(h:rH F a G):G=kP F a:=
 yBW (by rw[h.len,zeP]) λi j o=>by rw[h.cL i j,mf o]
theorem uc{F:List aE}{a:bF}(h:vl F a):∀r∈kP F a,aM r:=λr b=>by obtain ⟨i,d,rfl⟩:=ky b;rw[mf d];exact h i _
def eO(s:bm)(st:cf):List aK->List bF->List aE->Prop
 |[],A,_=>A=[]
 |j::H,A,F=>∃a b,A=a::b/\e_ s st j a/\vl F a/\eO s st H b (kP F a)
def g_(s:bm)(st:cf):Prop:=eO s st (st.ai.filter s_) st.ah s.am
theorem eO.mem{s:bm}{st:cf}{H:List aK}{A:List bF}{F:List aE}(h:eO s st H A F):∀a∈A,∃j∈H,e_ s st j a:=by
 induction H generalizing A F with
 |nil=>intro a i;rw[show A=[] from h] at i;cases i
 |cons j H ih=>
  obtain ⟨b,o,rfl,u,x,z⟩:=h
  grind
theorem g_.mem{s:bm}{st:cf}(h:g_ s st):∀a∈st.ah,∃j∈st.ai,e_ s st j a:=λa i=>by
 obtain ⟨j,o,u⟩:=eO.mem h a i
 grind
theorem UA{α:Type}{M:List (Int×α)}{k:Int}{a:α}{b:Int}:cI (jI M k a) b=if k=b then some a else cI M b:=by
 induction M with
 |nil=>simp[jI,cI]
 |cons p M ih=>
  obtain ⟨q,v⟩:=p;simp only[jI];split
  ·grind [Go.Abs.cI]
  ·rename_i e;simp only[cI,ih]
   grind
theorem BB{s:bm}(hs:lq s)(k:bn s):PM 5000 s=some true:=by obtain ⟨r,e,h⟩:=qW s hs;rw[e,h.2 k]
theorem GP{l:List aE}(h:l.length<=1000000):zaZ 5000 l=some l:=by simp only[zaZ,xQ h]
theorem Ea{s:bm}(hs:lq s)(k:bn s):zcF 5000 s=some (.inr ([],s.am)):=by have:=hs.nodes;simp only[zcF,BB hs k,Option.bind_some,Om,bT,cn,GP (show s.am.length<=1000000 by omega)]
theorem RJ{l:List cV}(h:1<=kN l):l≠[]:=λe=>by grind [kN]
structure AInv (s:bm) (st:cf) (i:Nat) (x:(List bF)×Int×(List aE)×List (Int×bF)):Prop where
 ix:x.2.1=(i:Int)
 iff:g_ s st↔eO s st ((st.ai.drop i).filter s_) x.1 x.2.2.1
 len:x.2.2.1.length=s.am.length
 ZF:∀r∈x.2.2.1,aM r
 keys:∀q,cI x.2.2.2 q≠none->∃m,∃h:m<st.ai.length,m<i/\st.ai[m].Id=q
 sub:∀a∈x.1,a∈st.ah
 yY:x.1.length<=300
theorem Ew{s:bm}(k:bn s){st:cf}(z:lm s st)(J:dv s st):fH (zes 5000 s st) (g_ s st):=by
 have hl:=z.bg;have hn:=z.spec.nodes;unfold zes;rw[Ea z.spec k,aD];dsimp only;refine jb st.ai.length (AInv s st) (λi x f G R hr=>?_) (λx f R=>?_) ⟨rfl,by simp[g_],rfl,k.nodes.ok,λq h=>absurd rfl h,λa U=>U,z.b_⟩ (by omega)
 ·obtain ⟨o,x1,F,M⟩:=x;obtain ⟨p,d,t,n,g,j,u⟩:=R;dsimp only at p d t n g j u;subst p;rw[yBD G] at d;have ji:=J.each _ (bC G);have O:=ji.ok;have up:∀q,(∃m,∃h:m<st.ai.length,m<i/\st.ai[m].Id=q)->∃m,∃h:m<st.ai.length,m<i+1/\st.ai[m].Id=q:=λq ⟨m,h,W,A⟩=>⟨m,h,by omega,A⟩;simp only[dW,eG,cK G,if_true,bV G,Option.bind_some,bS (show i<1000000 by omega)];rw[bp];refine ⟨λh=>hr _ ⟨rfl,?_,t,n,λq hq=>up q (g q hq),j,u⟩,λh=>?_⟩
  ·have e:s_ st.ai[i]=false:=by grind [s_]
   grind
  ·have e:s_ st.ai[i]=true:=by simpa only[s_,iF,oE] using h
   rw[List.filter_cons_of_pos e] at d;have ad:=O.start;have af:=O.wall;rw[wr (x:=st.ai[i].Start+st.ai[i].aW) (by omega) (by omega),bp];refine ⟨λW=>cY λq=>?_,λW=>?_⟩
   ·obtain ⟨a,E,rfl,K,-⟩:=d.1 q;have:=K.now
    grind
   ·simp only[gq,br,nK,not_or] at W;cases o with
    |nil=>grind
    |cons a E=>
     have U:=j a (sq ..);have L:=z.shares a U;have X:aB (a::E) 0=some a:=by unfold aB;simp_all
     have sl:slice? (a::E) 1 ((a::E).length:Int)=some E:=by unfold slice?;rw[if_pos ⟨by omega,by omega,by omega⟩];simp
     simp only[X,sl,Option.bind_some];rw[bp];refine ⟨λA=>?_,λA=>?_⟩
     ·refine cY λq=>?_;obtain ⟨Y,y,Z,K,-⟩:=d.1 q
      grind [e_.Fs,gP,e_.need]
     ·simp only[gq,Ip,ne_eq,not_or,Ua,iF,oE] at A;have eN:a.az=st.ai[i].az:=gP.1 A.2;refine (KF z.spec k st.ai[i] a.ae (lQ L (by decide))).bind λr aa=>?_;rw[bp];refine ⟨λh3=>?_,λh3=>?_⟩
      ·refine cY λq=>?_;obtain ⟨Y,y,Z,K,-⟩:=d.1 q
       grind [e_.ny]
      ·simp only[iF,oE] at h3;have S:=aa.1 h3;have P:e_ s st st.ai[i] a:=⟨A.1,eN,S,by omega⟩;have T:vl F a->vx M F a:=λhf=>⟨by have:=O.id;omega,RJ (by have:=O.many;have:=S.Uk;omega),by grind [jC.shares],by grind [fj.need],by
        cases hm:cI M a.aV with
        |none=>rfl
        |some v=>obtain ⟨m,ak,ab,an⟩:=g a.aV (by simp_all);have:=J.bK.lt ab G;omega,hf⟩
       refine (IE (M:=M) (a:=a) (F:=F) (by omega) (lQ L (by decide)) n).bind λr2 N=>?_;rw[bp];refine ⟨λQ=>cY λq=>?_,λQ=>?_⟩
       ·obtain ⟨Y,y,Z,K,hf,-⟩:=d.1 q
        simp_all
       ·simp only[Ip,ne_eq,Ua] at Q;have tk:=N.1.1 Q;obtain ⟨eM,bh⟩:=N.2 Q;have eF:=bh.eq;refine hr _ ⟨rfl,?_,?_,?_,λq hq=>?_,λb hb=>j b (pM _ hb),?_⟩
        ·rw[d];dsimp only;rw[eF];constructor
         ·rintro ⟨Y,y,Z,K,hf,w⟩
          simp_all
         ·intro w;exact ⟨a,E,rfl,P,tk.fits,w⟩
        ·grind [zeP]
        ·grind [uc,vx.fits]
        ·grind [UA]
        grind
 ·obtain ⟨o,x1,F,M⟩:=x;obtain ⟨p,d,t,n,g,j,u⟩:=R;dsimp only at p d;subst p;rw[List.drop_length] at d;simp only[eC,bT,cn,aZ,nK];rw[d];constructor
  ·intro h;exact Xo (by omega)
  ·intro h;rw[show o=[] from h];rfl
end Go.Plain
end
section
namespace Go.Plain
open Go.Abs
structure OneB (n:Int) (b:gM):Prop where
 id:1<=b.Id/\b.Id<=281474976710656
 node:0<=b.Node/\b.Node<n
 lo:0<=b.bN
 span:b.bN<b.To
 hi:b.To<=1099511627776
structure uQ (b:gM) (node p q:Int):Prop where
 node:b.Node=node
 span:b.bN<b.To
 pq:p<q
 l:b.bN<q
 r:p<b.To
structure Ql (l:List gM) (n:Int) (i:Nat) (b:gM):Prop where
 one:OneB n b
 up:∀x (h:x<l.length),x<i->l[x].Id<b.Id/\¬uQ l[x] b.Node b.bN b.To
structure zh (l:List gM) (n:Int):Prop where
 len:l.length<=16
 each:∀i (h:i<l.length),Ql l n i l[i]
theorem Fo(l:List gM)(node p q:Int)(k:l.length<=300):fH (fN 5000 l node p q) (∃b∈l,uQ b node p q):=by
 simp only[fN];refine vk l (λ_ b=>¬uQ b node p q) (λi f a _ d=>?_) (λf h=>?_) (by omega)
 ·simp only[cK a,if_true,bV a,Option.bind_some,bS (show i<1000000 by omega),bp];have e:decide ((if p > l[i].bN then p else l[i].bN)<(if q<l[i].To then q else l[i].To))=true↔l[i].bN<l[i].To/\p<q/\l[i].bN<q/\p<l[i].To:=by
   grind
  rw[bH,e,nK];exact ⟨λh=>qD ⟨_,bC a,⟨h.1,h.2.1,h.2.2.1,h.2.2.2.1,h.2.2.2.2⟩⟩,λh=>d λm=>h ⟨m.node,m.span,m.pq,m.l,m.r⟩⟩
 ·simp only[eC,bT,cn];exact cY λ⟨b,g,j⟩=>CW (A:=λb=>¬uQ b node p q) h b g j
theorem Ii(l:List gM)(node p q:Int)(j:l.length<=300):fH (za6 5000 l node p q) (∃b∈l,uQ b node p q):=by
 simp only[za6];refine vk l (λ_ b=>¬uQ b node p q) (λi f a _ d=>?_) (λf h=>?_) (by omega)
 ·simp only[cK a,if_true,bV a,Option.bind_some,bS (show i<1000000 by omega),bp];simp only[bH,br,nK];exact ⟨λh=>qD ⟨_,bC a,⟨h.1.1.1.1,h.1.1.1.2,h.1.1.2,h.1.2,h.2⟩⟩,λh=>d λm=>h ⟨⟨⟨⟨m.node,m.span⟩,m.pq⟩,m.l⟩,m.r⟩⟩
 ·simp only[eC,bT,cn];exact cY λ⟨b,e,g⟩=>CW (A:=λb=>¬uQ b node p q) h b e g
theorem Wy(b:gM)(n:Int):fH (rG 5000 b n) (OneB n b):=by simp only[rG,fH,aZ,bH,br];exact ⟨λh=>⟨by omega,by omega,by omega,by omega,by omega⟩,λh=>by have:=h.id;have:=h.node;have:=h.lo;have:=h.span;have:=h.hi;omega⟩
theorem ref_one(b:gM)(n:Int):fH (zeV 5000 b n) (OneB n b):=by simp only[zeV,zbi,Option.bind_some,fH,bp,aZ,bH,br];refine ⟨λa=>⟨λh=>⟨by omega,by omega,by omega,by omega,by omega⟩,λh=>by have:=h.id;have:=h.node;have:=h.lo;have:=h.span;have:=h.hi;omega⟩,λa=>⟨λh=>by simp at h,λh=>by have:=h.id;omega⟩⟩
theorem rA{α:Type}{l:List α}{i:Nat}(h:i<=l.length):slice? l 0 (i:Int)=some (l.take i):=by
 unfold slice?
 simp_all
theorem Ya{l:List gM}{i:Nat}{P:gM->Prop}:(∃b∈l.take i,P b)↔∃x,∃h:x<l.length,x<i/\P l[x]:=by
 constructor
 ·grind [List.getElem_of_mem]
 ·rintro ⟨x,e,a,hp⟩;have d:x<(l.take i).length:=by grind
  refine ⟨(l.take i)[x],bC d,?_⟩
  simp_all
theorem DB(l:List gM)(n:Int)(y:l.length<=300):fH (mw 5000 l n) (zh l n):=by
 unfold mw;rw[fH,bp];refine ⟨λh=>cY λq=>?_,λh=>?_⟩
 ·have:=q.len
  grind
 ·simp only[br] at h;refine vk l (λi b=>Ql l n i b) (λi f d o w=>?_) (λf o=>?_) (by omega)
  ·have hd:decide ((i:Int) > 0)=decide (0<i):=by simp
   simp only[dW,cK d,if_true,bV d,Option.bind_some,bS (show i<1000000 by omega),hd,rA (yCb d)];refine (Wy l[i] n).bind λr k=>?_;rw[bp];refine ⟨λp=>cY λq=>?_,λp=>?_⟩
   ·have:=k.2 (q.each i d).one
    simp_all
   ·simp only[iF,oE] at p;have O:=k.1 p;have fin:(∀x (h:x<l.length),x<i->l[x].Id<l[i].Id)->bM ((fN 5000 (l.take i) l[i].Node l[i].bN l[i].To).bind λr=>if r=true then some false else f ((i+1:Nat):Int)) (λb=>b=true↔zh l n):=λs=>by
     refine (Fo (l.take i) _ _ _ (by rw[Cs];omega)).bind λr e=>?_;rw[Ya] at e;rw[bp];refine ⟨λg=>cY λq=>?_,λg=>w ⟨O,λx j a=>⟨s x j a,λm=>g (e.2 ⟨x,j,a,m⟩)⟩⟩⟩;obtain ⟨x,j,a,m⟩:=e.1 g;exact ((q.each i d).up x j a).2 m
    rw[bp];refine ⟨λg=>?_,λg=>?_⟩
    ·simp only[br] at g;obtain ⟨m,rfl⟩:∃m,i=m+1:=⟨i-1,by omega⟩;have t:m<l.length:=by omega
     rw[wp1 (show m+1<1000000 by omega),bV t,aD,bp];refine ⟨λu=>cY λq=>?_,λu=>fin λx j a=>?_⟩
     ·have:=((q.each (m+1) d).up m t (by omega)).1
      grind
     ·simp only[br] at u;rcases XI (yCe.1 a) with v | v
      ·have:=((o m t (by omega)).up x j v).1;omega
      simp_all
    simp_all
  ·simp only[eC,bT,cn];exact qD ⟨by omega,λi d=>o i d⟩
theorem UJ{α:Type}{l:List α}{i:Nat}(h:i<l.length):slice? l (i:Int) ((i+1:Nat):Int)=some [l[i]]:=by
 unfold slice?;rw[if_pos ⟨by omega,by omega,by omega⟩]
 grind [List.take_succ_eq_append_getElem,List.drop_eq_nil_of_le]
theorem VQ(l:List gM)(n:Int)(E:l.length<=300):fH (zdJ 5000 l n) (zh l n):=by
 unfold zdJ;refine vk l (λi b=>Ql l n i b) (λi f d p v=>?_) (λf p=>?_) (by omega)
 ·simp only[dW,cK d,if_true,bV d,Option.bind_some,bS (show i<1000000 by omega)];refine (ref_one l[i] n).bind λr e=>?_;rw[bp];refine ⟨λk=>cY λq=>?_,λk=>?_⟩
  ·have:=e.2 (q.each i d).one
   simp_all
  ·simp only[iF,oE] at k;have O:=e.1 k;refine jb i (λx y=>y=(x:Int)/\∀z (h:z<l.length),z<x->l[z].Id<l[i].Id/\¬uQ l[z] l[i].Node l[i].bN l[i].To) (λx y g m o w=>?_) (λy g o=>?_) ⟨rfl,λz h G=>by omega⟩ (by omega)
   ·obtain ⟨rfl,s⟩:=o;have a:x<l.length:=by omega
    simp only[cK m,if_true,bV a,Option.bind_some,bS (show x<1000000 by omega)];rw[bp];refine ⟨λt=>cY λq=>?_,λt=>?_⟩
    ·have:=((q.each i d).up x a m).1
     grind
    ·simp only[br] at t;rw[UJ a,aD];refine (Ii [l[x]] _ _ _ (by simp)).bind λr j=>?_;simp only[AQ,exists_eq_left] at j;rw[bp];refine ⟨λu=>cY λq=>((q.each i d).up x a m).2 (j.1 u),λu=>w _ ⟨rfl,λz hz A=>?_⟩⟩
     grind
   ·obtain ⟨rfl,s⟩:=o;simp only[eC,bT,cn];exact v ⟨O,s⟩
 ·simp only[eC,bT,cn,aZ,br];exact ⟨λh=>⟨by omega,λi d=>p i d⟩,λq=>by have:=q.len;omega⟩
def Rm(st:cf)(a:bF):Prop:=∀j∈st.ai,j.Id=a.aV->∀x∈a.ae,∀b∈st.ay,b.Node=x.Node->¬b.bN<j.Start+j.aW
structure zl (s:bm) (st:cf):Prop where
 cB:zh st.ay s.am.length
 live:∀b∈st.ay,b.Id<st.cX/\st.aR<b.To
 vm:∀a∈st.ah,Rm st a
theorem LY{s:bm}{st:cf}(v:lm s st)(J:dv s st)(A:g_ s st):fH (gQ 5000 s st) (zl s st):=by
 have k:=v.cB;have hj:=v.bg;have W:=v.b_;unfold gQ;refine (DB st.ay _ (by omega)).bind λr w=>?_;rw[bp];refine ⟨λz=>cY λq=>?_,λz=>?_⟩
 ·grind [zl.cB]
 ·simp only[iF,oE] at z;have B:=w.1 z;refine vk st.ay (λi b=>b.Id<st.cX/\st.aR<b.To) (λi f n _ E=>?_) (λf S=>?_) (by omega)
  ·simp only[cK n,if_true,bV n,Option.bind_some,bS (show i<1000000 by omega)];rw[bp];simp only[gq,br];exact ⟨λX=>cY λq=>by have:=q.live _ (bC n);omega,λX=>E (by omega)⟩
  ·simp only[eC,bT,cn];refine vk st.ah (λi a=>Rm st a) (λi f n _ E=>?_) (λf Y=>?_) (by omega)
   ·simp only[cK n,if_true,bV n,Option.bind_some,bS (show i<1000000 by omega)];have G:=bC n;have Z:=v.shares _ G;obtain ⟨j,d,P⟩:=A.mem _ G;have o:=J.each j d;have aa:=o.ok.id;have ab:=o.ok.start;have jw:=o.ok.wall;refine (RX (by omega) J.bK (id:=st.ah[i].aV) (by have:=P.Fs;omega) J.ids).bind λr2 p=>?_;rw[p.1.2 ⟨j,d,P.Fs.symm⟩,if_neg (by simp)];have h:=p.2 (p.1.2 ⟨j,d,P.Fs.symm⟩);obtain ⟨K,ad⟩:=r2;dsimp only at h ⊢;obtain ⟨L,e⟩:=Eh (l:=st.ai) h.lo (by have:=h.lo;have:=h.hi;omega);have ej:st.ai[K.toNat]=j:=by
     obtain ⟨m,t,rfl⟩:=ky d;have:=J.bK.inj L t (by rw[h.is,P.Fs])
     simp_all
    rw[ej] at e;rw[e];simp only[Option.bind_some];rw[wr (x:=j.Start+j.aW) (by omega) (by omega)];have pn:=P.now;refine vk st.ah[i].ae (λ_ x=>∀b∈st.ay,b.Node=x.Node->¬b.bN<j.Start+j.aW) (λm g t _ hg=>?_) (λg hG=>?_) (by omega)
    ·simp only[cK t,if_true,bV t,Option.bind_some,bS (show m<1000000 by omega)];refine (Fo st.ay _ _ _ (by omega)).bind λr3 u=>?_;rw[bp];refine ⟨λM=>cY λq=>?_,λM=>hg λb k hn hf=>M (u.2 ⟨b,k,?_⟩)⟩
     ·obtain ⟨b,k,T⟩:=u.1 M;exact q.vm _ G j d P.Fs.symm _ (bC t) b k T.node T.l
     ·obtain ⟨y,U,rfl⟩:=ky k;have:=S y U;exact ⟨hn,(B.each y U).one.span,pn,hf,this.2⟩
    ·simp only[eC,bT,cn];refine E λN O Q x L b k=>?_;have:N=j:=by
      obtain ⟨m,t,rfl⟩:=ky d;obtain ⟨m',R,rfl⟩:=ky O;have:=J.bK.inj R t (by rw[Q,P.Fs])
      simp_all
     subst this;exact CW (A:=λx=>∀b∈st.ay,b.Node=x.Node->¬b.bN<N.Start+N.aW) hG x L b k
   ·simp only[eC,bT,cn];exact qD ⟨B,CW S,CW Y⟩
structure bo (s:bm) (st:cf):Prop where
 spec:bn s
 nums:OV s st
 bg:dv s st
 waits:∀j∈st.ai,Hn s st j
 b_:g_ s st
 jf:zl s st
 use:LM s st
theorem E_{s:bm}{st:cf}(a:lm s st):fH (f_ 5000 s st) (bo s st):=by
 unfold f_;have step:∀{o:Option Bool}{P:Prop}{k:Option Bool},fH o P->(bo s st->P)->(P->fH k (bo s st))->fH (o.bind λr=>if r=true then k else some false) (bo s st):=λe b f=>e.bind λr d=>bp.2 ⟨λh=>f (d.1 h),λh=>cY λq=>h (d.2 (b q))⟩
 refine step (qW s a.spec) (λq=>q.spec) λk=>?_;refine step (PK k st) (λq=>q.nums) λe=>?_;refine step (jobs_ok k a) (λq=>q.bg) λb=>?_;refine step (OI k a b) (λq=>q.waits) λf=>?_;refine step (Ew k a b) (λq=>q.b_) λg=>?_;refine step (LY a b g) (λq=>q.jf) λi=>?_;refine (Wb a).bind λr d=>?_;rw[aZ,d];exact ⟨λj=>⟨k,e,b,f,g,i,j⟩,λq=>q.use⟩
end Go.Plain
end
section
namespace Go.Plain
open Go.Abs
def cO(A:List bF)(i:Int)(c:Nat):Int:=(A.map λa=>dM a.ae i * cmp c a.az).sum
theorem zdF{a:bF}{A:List bF}{i:Int}{c:Nat}:cO (a::A) i c=dM a.ae i * cmp c a.az+cO A i c:=by simp[cO]
theorem mC{A:List bF}{k:Nat}(h:k<A.length)(i:Int)(c:Nat):cO (A.take (k+1)) i c=cO (A.take k) i c+dM A[k].ae i * cmp c A[k].az:=by grind [List.take_succ_eq_append_getElem,cO]
def xO(n:Int)(A:List bF):Prop:=∀a∈A,ba a.ae n/\aM a.az
theorem WK{n:Int}{a:bF}(h:ba a.ae n/\aM a.az)(i:Int)(c:Nat):0<=dM a.ae i * cmp c a.az/\dM a.ae i * cmp c a.az<=67108864:=
 gE (qL h.1 i) (vY.1 h.2 c)
theorem vX{n:Int}{A:List bF}(h:xO n A)(i:Int)(c:Nat):0<=cO A i c/\cO A i c<=67108864 * A.length:=by
 induction A with
 |nil=>simp[cO]
 |cons a A ih=>
  have e:=ih λb d=>h b (pM _ d);have f:=WK (h a (sq ..)) i c
  grind [zdF]
def DS(F:List aE)(A:List bF):Prop:=∀i (h:i<F.length) c,cO A i c<=cmp c F[i]
theorem Ha{a:aE}{n:Int}(b:aM a)(hn:0<=n/\n<=64):zb1 5000 a n=some (mulR n a):=by
 obtain ⟨m,rfl⟩:∃m:Nat,n=(m:Int):=⟨n.toNat,by omega⟩;unfold zb1;refine bM.eq (jb m (λk x=>x=((k:Int),(k:Int) * a.bL,(k:Int) * a.Mem,(k:Int) * a.bO,(k:Int) * a.bR)) (λk x f hk d o=>?_) (λx f d=>?_) (by simp) (by omega))
 ·subst d;have g:=gE (n:=((k+1:Nat):Int)) (by omega) b.FY;have h:=gE (n:=((k+1:Nat):Int)) (by omega) b.mem;have i:=gE (n:=((k+1:Nat):Int)) (by omega) b.IW;have j:=gE (n:=((k+1:Nat):Int)) (by omega) b.Ky;have e:∀x:Int,((k+1:Nat):Int) * x=(k:Int) * x+x:=λx=>by grind
  rw[e] at g h i j;simp only[cK hk,if_true,Vt,Option.bind_some,bS (show k<1000000 by omega)]
  grind [wr]
 ·subst d;simp only[eC,bT,cn,aZ];rfl
theorem WB(a b:aE):fH (Oj 5000 a b) (∀c,cmp c a<=cmp c b):=by
 simp only[Oj,fH,aZ,bH,br];constructor
 ·intro h c
  match c with
  |0=>exact h.1.1.1
  |1=>exact h.1.1.2
  |2=>exact h.1.2
  |_+3=>exact h.2
 ·intro h;exact ⟨⟨⟨h 0,h 1⟩,h 2⟩,h 3⟩
theorem Mp{F:List aE}{A:List bF}(R:F.length<=300)(S:A.length<=300)(hs:∀a∈A,a.ae.length<=300){n:Int}(h:xO n A):bM (zeq 5000 F A) λr=>r.2=true↔DS F A:=by
 unfold zeq;refine jb F.length (λi x=>(x.1=true↔∀m (h:m<F.length),m<i->∀c,cO A m c<=cmp c F[m])/\x.2.1=(i:Int)/\x.2.2.length=i) (λi x f b o E=>?_) (λx f o=>?_) ⟨⟨λ_ m h T=>by omega,λ_=>rfl⟩,rfl,rfl⟩ (by omega)
 ·obtain ⟨G,K,p⟩:=x;obtain ⟨e,d,s⟩:=o;dsimp only at e d s;subst d;simp only[cK b,if_true];refine jb A.length (λk y=>y=((k:Int),cO (A.take k) i 0,cO (A.take k) i 1,cO (A.take k) i 2,cO (A.take k) i 3)) (λk y g hk t L=>?_) (λy g t=>?_) (by simp[cO]) (by omega)
  ·subst t;have u:=h _ (bC hk);have j:xO n (A.take (k+1)):=λa M=>h a (Qo M);have lk:((A.take (k+1)).length:Int)<=300:=by grind
   have N:=vX j i 0;have O:=vX j i 1;have P:=vX j i 2;have Q:=vX j i 3;rw[mC hk] at N O P Q;simp only[cK hk,if_true,bV hk,Option.bind_some,OZ (hs _ (bC hk)) u.1,Ha u.2 (qL u.1 i),Vt,bS (show k<1000000 by omega)];refine L _ ?_;rw[mC hk,mC hk,mC hk,mC hk];have U:(mulR (dM A[k].ae i) A[k].az).bL=dM A[k].ae i * cmp 0 A[k].az:=rfl;have W:(mulR (dM A[k].ae i) A[k].az).Mem=dM A[k].ae i * cmp 1 A[k].az:=rfl;have X:(mulR (dM A[k].ae i) A[k].az).bO=dM A[k].ae i * cmp 2 A[k].az:=rfl;have Y:(mulR (dM A[k].ae i) A[k].az).bR=dM A[k].ae i * cmp 3 A[k].az:=rfl
   grind [wr]
  ·subst t;have ap:∀z:aE,bI p [z]=some (p++[z]):=λz=>Aw (by grind);simp only[eC,bT,cn,dW,bV b,Option.bind_some,zca,ap,bS (show i<1000000 by omega),xA];rw[bp];refine ⟨λv=>?_,λv=>?_⟩
   ·refine (WB _ _).bind λr w=>?_;refine E _ ⟨?_,rfl,by simp_all⟩;dsimp only;rw[w];have Z:∀c,cmp c ({ bL:=cO A i 0,Mem:=cO A i 1,bO:=cO A i 2,bR:=cO A i 3 }:aE)=cO A i (min c 3):=λc=>by
     match c with
     |0=>rfl
     |1=>rfl
     |2=>rfl
     |c+3=>rw[Nat.min_eq_right (by omega)];rfl
    have eu:∀c,cO A i (min c 3)=cO A i c:=λc=>by
     match c with
     |0=>rfl
     |1=>rfl
     |2=>rfl
     |c+3=>rw[Nat.min_eq_right (by omega)];rfl
    grind
   grind
 ·obtain ⟨G,K,p⟩:=x;obtain ⟨e,d,s⟩:=o;dsimp only at e d s;subst d;simp only[eC,bT,cn,aZ];rw[e];exact ⟨λq i b c=>q i b b c,λq i b _ c=>q i b c⟩
structure Rx (s:bm) (st:cf) (i:Nat) (a:bF):Prop where
 up:∀m (h:m<st.ah.length),m+1=i->st.ah[m].aV<a.aV
 Fs:∃j∈st.ai,j.Id=a.aV
 shares:ba a.ae s.am.length
 need:aM a.az
structure Xu (s:bm) (st:cf):Prop where
 each:∀i (h:i<st.ah.length),Rx s st i st.ah[i]
 fit:DS s.am st.ah
theorem Xu.Fy{s:bm}{st:cf}(h:Xu s st):xO s.am.length st.ah:=λa o=>by obtain ⟨i,j,rfl⟩:=ky o;exact ⟨(h.each i j).shares,(h.each i j).need⟩
theorem OD{s:bm}{st:cf}(g:lm s st):fH (zdt 5000 s st) (Xu s st):=by
 have M:=g.bg;have v:=g.b_;have hn:=g.spec.nodes;unfold zdt;refine vk st.ah (λi a=>Rx s st i a) (λi f d t w=>?_) (λf t=>?_) (by omega)
 ·have hd:decide ((i:Int) > 0)=decide (0<i):=by simp
  have x:=g.shares _ (bC d);have fin:(∀m (h:m<st.ah.length),m+1=i->st.ah[m].aV<st.ah[i].aV)->bM ((Oy 5000 st.ai st.ah[i].aV).bind λr=>
    if decide (r<0)=true then some false else (zbh 5000 st.ah[i].ae (s.am.length:Int)).bind λA=>
    if (!A)=true then some false else (V_ 5000 st.ah[i].az).bind λk=>if (!k)=true then some false else f ((i+1:Nat):Int)) (λb=>b=true↔Xu s st):=λy=>by
   refine (qh (by omega) st.ah[i].aV).bind λr n=>?_;rw[bp];refine ⟨λh=>cY λq=>?_,λh=>?_⟩
   ·have:=n.1.2 (q.each i d).Fs
    simp_all
   ·simp only[br] at h;refine (Bs _ _ (lQ x (by decide))).bind λA o=>?_;rw[bp];refine ⟨λh=>cY λq=>?_,λu=>?_⟩
    ·have:=o.2 (q.each i d).shares
     simp_all
    ·simp only[iF,oE] at u;refine (vD _).bind λk p=>?_;rw[bp];refine ⟨λh=>cY λq=>?_,λE=>?_⟩
     ·have:=p.2 (q.each i d).need
      simp_all
     ·simp only[iF,oE] at E;exact w ⟨y,n.1.1 (by omega),o.1 u,p.1 E⟩
  simp only[dW,cK d,if_true,bV d,Option.bind_some,bS (show i<1000000 by omega),hd];rw[bp];refine ⟨λh=>?_,λh=>?_⟩
  ·simp only[br] at h;obtain ⟨m,rfl⟩:∃m,i=m+1:=⟨i-1,by omega⟩;rw[wp1 (show m+1<1000000 by omega),bV (show m<st.ah.length by omega),aD,bp];refine ⟨λu=>cY λq=>?_,λu=>fin λN L e=>?_⟩
   ·have:=(q.each (m+1) d).up m (by omega) rfl
    grind
   simp_all
  simp_all
 ·simp only[eC,bT,cn];have G:xO s.am.length st.ah:=λa z=>by
   obtain ⟨j,K,rfl⟩:=ky z;exact ⟨(t j K).shares,(t j K).need⟩
  refine (Mp (by omega) v (λa z=>lQ (g.shares a z) (by decide)) G).bind λr w=>?_;rw[aZ,w];exact ⟨λh=>⟨λi d=>t i d,h⟩,λh=>h.fit⟩
theorem Pr{l:List Int}(h:∀i (h:i+1<l.length),l[i]<l[i+1]):l.Pairwise (·<·):=by
 rw[yAZ];intro i j b d a;induction j with
 |zero=>omega
 |succ j ih=>grind
theorem asc_eq{l m:List Int}(a:l.Pairwise (·<·))(hm:m.Pairwise (·<·))(h:∀x,x∈l↔x∈m):l=m:=by
 induction l generalizing m with
 |nil=>
  cases m with
  |nil=>rfl
  |cons y m=>grind [List.mem_cons_self]
 |cons x l ih=>
  cases m with
  |nil=>grind
  |cons y m=>
   rw[yBl] at a hm;have e:x=y:=by
    rcases gn.1 ((h x).1 (sq ..)) with e | b
    ·exact e
    ·rcases gn.1 ((h y).2 (sq ..)) with e | d
     ·omega
     grind
   grind
theorem oT{s:bm}{st:cf}{H:List aK}{A:List bF}{F:List aE}(h:eO s st H A F)(g:∀r∈F,aM r):A.map (·.aV)=H.map (·.Id)/\DS F A:=by
 induction H generalizing A F with
 |nil=>rw[show A=[] from h];exact ⟨rfl,λi b c=>by grind [cO,vY,List.getElem_mem]⟩
 |cons j H ih=>
  obtain ⟨a,k,rfl,m,d,e⟩:=h;obtain ⟨n,f⟩:=ih e (uc d);refine ⟨by grind [e_.Fs],λi b c=>?_⟩;have:=f i (by grind [zeP]) c;rw[mf,qy,Cq,Bn] at this
  grind [zdF]
theorem Nr{s:bm}{st:cf}{n:Int}{H:List aK}{A:List bF}{F:List aE}(d:A.map (·.aV)=H.map (·.Id))(v:∀r∈F,aM r)(m:∀a∈A,∀j∈H,a.aV=j.Id->e_ s st j a)(o:xO n A)(p:DS F A):eO s st H A F:=by
 induction H generalizing A F with
 |nil=>
  cases A with
  |nil=>rfl
  |cons a A=>cases d
 |cons j H ih=>
  cases A with
  |nil=>cases d
  |cons a A=>
   rw[sH,sH] at d;have e:a.aV=j.Id:=by simp_all
   have f:A.map (·.aV)=H.map (·.Id):=by simp_all
   have w:=o a (sq ..);have t:xO n A:=λb g=>o b (pM _ g);have fa:vl F a:=λi h=>vY.2 λc=>by have u:=p i h c;have x:=WK w i c;have y:=vX t i c;have z:=vY.1 (v _ (bC h)) c;rw[zdF] at u;rw[qy,Cq,Bn];omega
   refine ⟨a,A,rfl,m a (sq ..) j (sq ..) e,fa,ih f (uc fa) (λb g k hk=>m b (pM _ g) k (pM _ hk)) t λi h c=>?_⟩;have u:=p i (by grind [zeP]) c;rw[mf,qy,Cq,Bn]
   grind [zdF]
theorem Iz{s:bm}{st:cf}(J:dv s st):((st.ai.filter s_).map (·.Id)).Pairwise (·<·):=by
 have h:(st.ai.map (·.Id)).Pairwise (·<·):=Pr λi a=>by rw[VG,VG];exact J.bK i (by simp_all)
 grind
structure YI (s:bm) (st:cf) (j:aK):Prop where
 has:(∃a∈st.ah,a.aV=j.Id)↔s_ j=true
 XF:∀a∈st.ah,a.aV=j.Id->e_ s st j a
theorem Fk{s:bm}{st:cf}(k:bn s)(J:dv s st)(A:g_ s st):Xu s st/\∀j∈st.ai,YI s st j:=by
 obtain ⟨o,p⟩:=oT A k.nodes.ok;have pw:=Iz J;rw[<-o] at pw;have Bl:∀j∈st.ai,∀f∈st.ai,j.Id=f.Id->j=f:=λj b f d e=>by
  obtain ⟨m,n,rfl⟩:=ky b;obtain ⟨u,g,rfl⟩:=ky d;have:=J.bK.inj n g e
  simp_all
 refine ⟨⟨λi r=>?_,p⟩,λj b=>⟨⟨λ⟨a,h,e⟩=>?_,λt=>?_⟩,λa h e=>?_⟩⟩
 ·obtain ⟨j,b,P⟩:=A.mem _ (bC r);refine ⟨λm n e=>?_,⟨j,b,P.Fs.symm⟩,P.ny.shares,by rw[P.need];exact (J.each j b).ok.need⟩
  grind [List.pairwise_iff_getElem]
 ·have:a.aV∈st.ah.map (·.aV):=iQ.2 ⟨a,h,rfl⟩
  grind
 ·have:j.Id∈(st.ai.filter s_).map (·.Id):=iQ.2 ⟨j,Si.2 ⟨b,t⟩,rfl⟩
  grind
 ·obtain ⟨f,d,P⟩:=A.mem a h
  grind [e_.Fs]
theorem Wd{s:bm}{st:cf}(k:bn s)(J:dv s st)(R:Xu s st)(h:∀j∈st.ai,YI s st j):g_ s st:=by
 have pw:(st.ah.map (·.aV)).Pairwise (·<·):=Pr λi g=>by rw[VG,VG];exact (R.each (i+1) (by simp_all)).up i (by grind) rfl
 refine Nr (n:=s.am.length) (asc_eq pw (Iz J) λx=>⟨λf=>?_,λf=>?_⟩) k.nodes.ok (λa d j b e=>(h j (Si.1 b).1).XF a d e) R.Fy R.fit
 ·obtain ⟨a,d,rfl⟩:=iQ.1 f;obtain ⟨i,g,rfl⟩:=ky d;obtain ⟨j,b,e⟩:=(R.each i g).Fs;exact iQ.2 ⟨j,Si.2 ⟨b,(h j b).has.1 ⟨_,d,e.symm⟩⟩,e⟩
 ·obtain ⟨j,b,rfl⟩:=iQ.1 f;obtain ⟨a,d,e⟩:=(h j (Si.1 b).1).has.2 (Si.1 b).2
  grind
end Go.Plain
end
section
namespace Go.Plain
open Go.Abs
structure vu (u:Bf) (n:Int):Prop where
 shares:ba u.ae n
 yY:u.ae.length<=300
 need:aM u.az
 lo:0<=u.bN
 hi:u.To<=281474976710656
def jY(u:Bf)(k t:Int):aE:=if u.bN<=t/\t<u.To then mulR (dM u.ae k) u.az else bU
def a_(L:List Bf)(k t:Int):aE:=L.foldl (λr u=>AP r (jY u k t)) bU
theorem mZ(L:List Bf)(u:Bf)(k t:Int):a_ (L++[u]) k t=AP (a_ L k t) (jY u k t):=by simp[a_]
def Ed(B:List gM)(k t:Int):Prop:=∃b∈B,b.Node=k/\b.bN<=t/\t<b.To
open Classical in
noncomputable def bE(q:iB)(k t:Int):aE:=if Ed q.ay k t then bU else fo (kz q.S.am k) (a_ q.L k t)
structure ru (q:iB):Prop where
 spec:bn q.S
 now:0<=q.aR/\q.aR<=1099511627776
 cB:zh q.ay q.S.am.length
 used:∀u∈q.L,vu u q.S.am.length
 yY:q.L.length<=100
theorem pf_add{a b:aE}(d:∀c,0<=cmp c a/\cmp c a<=1099511627776)(e:∀c,0<=cmp c b/\cmp c b<=1099511627776):Vt 5000 a b=some (AP a b):=by
 unfold Vt AP;have f:=e 0;have g:=e 1;have h:=e 2;have i:=e 3;have j:=d 0;have k:=d 1;have m:=d 2;have n:=d 3
 grind [cmp,wr]
theorem pf_sub{a b:aE}(d:∀c,0<=cmp c a/\cmp c a<=1099511627776)(e:∀c,0<=cmp c b/\cmp c b<=1099511627776):zca 5000 a b=some (fo a b):=by
 unfold zca fo;have f:=e 0;have g:=e 1;have h:=e 2;have i:=e 3;have j:=d 0;have k:=d 1;have m:=d 2;have n:=d 3
 grind [cmp,wr]
theorem Sq(a b:aE):∃r,Oj 5000 a b=some r:=⟨_,rfl⟩
theorem JL{u:Bf}{n:Int}(h:vu u n)(k t:Int)(c:Nat):0<=cmp c (jY u k t)/\cmp c (jY u k t)<=67108864:=by
 unfold jY;split
 ·rw[Bn];exact gE (qL h.shares k) (vY.1 h.need c)
 grind [NX]
theorem Hd(a:aE):AP a bU=a:=dU λc=>by rw[vZ,NX];omega
theorem If{L:List Bf}{n:Int}(h:∀u∈L,vu u n)(k t:Int)(c:Nat)(i:Nat):0<=cmp c (a_ (L.take i) k t)/\cmp c (a_ (L.take i) k t)<=67108864 * i:=by
 induction i with
 |zero=>simp[a_,NX]
 |succ i ih=>
  by_cases a:i<L.length
  ·rw[GN a,mZ,vZ];have:=JL (h _ (bC a)) k t c;omega
  grind [List.take_of_length_le]
section
variable{q:iB}(hq:ru q)
include hq
theorem WY(k t:Int):zcB 5000 q k t=some (a_ q.L k t):=by
 have j:=hq.yY;unfold zcB;refine bM.eq (jb q.L.length (λi x=>x=((i:Int),(a_ (q.L.take i) k t).bL,(a_ (q.L.take i) k t).Mem,(a_ (q.L.take i) k t).bO,(a_ (q.L.take i) k t).bR)) (λi x f a b m=>?_) (λx f b=>?_) (by simp[a_,bU]) (by omega))
 ·subst b;have u:=hq.used _ (bC a);have n:=If hq.used k t;simp only[dW];rw[if_pos (cK a),bV a,aD,bS (show i<1000000 by omega)];have st:a_ (q.L.take (i+1)) k t=AP (a_ (q.L.take i) k t) (jY q.L[i] k t):=by rw[GN a,mZ]
  by_cases h:q.L[i].bN<=t/\t<q.L[i].To
  ·rw[if_pos (by simp_all),OZ u.yY u.shares,aD,Ha u.need (qL u.shares k),aD];have d:jY q.L[i] k t=mulR (dM q.L[i].ae k) q.L[i].az:=by unfold jY;simp_all
   have g:=JL u k t;rw[d] at g;have e:Vt 5000 ({ bL:=(a_ (q.L.take i) k t).bL,Mem:=(a_ (q.L.take i) k t).Mem,bO:=(a_ (q.L.take i) k t).bO,bR:=(a_ (q.L.take i) k t).bR }:aE) (mulR (dM q.L[i].ae k) q.L[i].az)=some (AP (a_ (q.L.take i) k t) (mulR (dM q.L[i].ae k) q.L[i].az)):=
    pf_add (λc=>by grind) (λc=>by grind)
   simp_all
  ·rw[if_neg (by simp_all)];have d:jY q.L[i] k t=bU:=by unfold jY;grind
   grind [Hd]
 ·subst b;dsimp only;rw[if_neg (by simp),aZ,xA]
theorem Xj(k:Int){t:Int}(f:0<=t):fH (za6 5000 q.ay k t (i64.wrap (t+1))) (Ed q.ay k t):=by
 have g:=hq.cB.len;refine (Ii q.ay k t _ (by omega)).mono λr h=>h.trans ?_;constructor
 ·rintro ⟨b,a,m⟩;obtain ⟨i,d,rfl⟩:=ky a;have o:=(hq.cB.each i d).one;refine ⟨_,a,m.node,?_,m.r⟩;have j:=m.l;have n:=m.pq;have p:=m.r;have:=o.hi
  grind [wr]
 ·rintro ⟨b,a,m1,s,e⟩;obtain ⟨i,d,rfl⟩:=ky a;have o:=(hq.cB.each i d).one;have:=o.hi;have:=o.lo;exact ⟨_,a,m1,by omega,by grind [wr],by grind [wr],e⟩
theorem Rc{k:Nat}(hk:k<q.S.am.length){t:Int}(b:0<=t):bM (zbU 5000 q k t) λr=>r.1=bE q k t:=by
 unfold zbU;rw[WY hq,aD];refine (Xj hq k b).bind λr a=>?_;unfold bE;by_cases h:Ed q.ay k t
 ·rw[if_pos h,if_pos (a.2 h)];obtain ⟨x,e⟩:=Sq (a_ q.L k t) { bL:=0,Mem:=0,bO:=0,bR:=0 };rw[e,aD,aZ];rfl
 ·rw[if_neg h,if_neg λe=>h (a.1 e),bV hk,aD];have n:=hq.spec.nodes.ok _ (bC hk);have d:=If hq.used k t;have f:=hq.yY;rw[pf_sub (λc=>by grind [vY]) (λc=>by grind [List.take_length]),aD,aD];obtain ⟨x,e⟩:=Sq (a_ q.L k t) q.S.am[k];rw[e,aD,aZ];have:kz q.S.am k=q.S.am[k]:=by grind [kz]
  rw[this]
end
def timeV(q:iB)(x:Int):Prop:=x=q.aR∨(∃u∈q.L,x=u.bN∨x=u.To)∨∃b∈q.ay,x=b.bN∨x=b.To
structure Db (q:iB) (T:List Int):Prop where
 bK:T.Pairwise λa b=>a<b
 mem:∀x,x∈T↔q.aR<=x/\timeV q x
 len:T.length<=300
structure Dj (l:List Int) (now:Int) (T:List Int):Prop where
 bK:T.Pairwise λa b=>a<b
 mem:∀x,x∈T↔now<=x/\x∈l
 len:T.length<=l.length
theorem XW(l:List Int)(P:l.length<=300)(d:Int):bM (zc6 5000 l d) (Dj l d):=by
 unfold zc6;refine jb l.length (λi x=>x.2=(i:Int)/\Dj (l.take i) d x.1) (λi x f r g v=>?_) (λx f g=>?_) ⟨rfl,by simp,by simp,by simp⟩ (by omega)
 ·obtain ⟨T,y⟩:=x;obtain ⟨rfl,k⟩:=g;dsimp only at k ⊢;have E:=k.len;rw[Cs] at E;rw[if_pos (cK r),dW];have t:l.take (i+1)=l.take i++[l[i]]:=GN r;have G:(l.take (i+1)).length=(l.take i).length+1:=by grind
  have same:Dj (l.take i) d T->(l[i]<d∨l[i]∈T)->Dj (l.take (i+1)) d T:=λh e=>⟨h.bK,λx=>by
   rw[t,nj,AQ,h.mem];constructor
   ·grind
   ·rintro ⟨a,b | b⟩
    ·grind
    ·subst b;rcases e with e | e
     ·omega
     ·exact (h.mem _).1 e,by grind⟩
  refine jb T.length (λj x=>x=(j:Int)/\∀m (w:m<T.length),m<j->T[m]<l[i]) (λj x K n g L=>?_) (λx K g=>?_) ⟨rfl,λm _ h=>by omega⟩ (by omega)
  ·obtain ⟨rfl,M⟩:=g;rw[dW,if_pos (cK n),bV n,aD,bV r,aD,bp];refine ⟨λh=>?_,λh=>?_⟩
   ·simp only[br] at h
    grind [bS]
   ·simp only[br] at h;rw[dW,aD,bp];refine ⟨λe=>?_,λe=>?_⟩
    ·simp only[br] at e;dsimp only;rw[if_pos rfl,bS (show i<1000000 by omega)]
     grind
    ·simp only[br] at e;rw[if_pos (cK n),aD,aD,bp];refine ⟨λu=>?_,λu=>?_⟩
     ·simp only[nK] at u
      grind [bS]
     ·simp only[nK] at u;rw[rA (yCb n),aD,xQ (by grind),aD,aD,Aw (by grind),aD,fZ (yCb n),aD,Aw (by grind),aD,bS (show i<1000000 by omega)];have o:T=T.take j++T.drop j:=(NW ..).symm;have p:=k.bK;rw[o] at p;obtain ⟨p1,N,Q⟩:=Od.1 p;have R:∀x∈T.drop j,l[i]<x:=λx g=>by
       obtain ⟨m,w,rfl⟩:=Oe.1 g
       grind [Nat.eq_zero_or_pos,List.pairwise_iff_getElem]
      have O:∀x∈T.take j,x<l[i]:=λx g=>by
       obtain ⟨m,w,rfl⟩:=Oe.1 g
       grind
      refine v _ ⟨rfl,Od.2 ⟨Od.2 ⟨p1,by simp,λa z b A=>by grind⟩,N,λa z b A=>?_⟩,λx=>?_,?_⟩
      ·grind
      ·rw[t,nj (s:=l.take i),AQ];have:=k.mem x;rw[o,nj] at this;rw[nj,nj,AQ];constructor
       ·rintro ((a | a) | a)
        ·grind
        ·omega
        grind
       grind
      grind
  ·obtain ⟨rfl,M⟩:=g;rw[dW,if_neg (by simp)];dsimp only;rw[if_neg (by simp),dW,bV r,aD,bp];refine ⟨λe=>?_,λe=>?_⟩
   ·simp only[br] at e;dsimp only;rw[if_pos rfl,bS (show i<1000000 by omega)]
    grind
   ·simp only[br] at e;rw[if_neg (by simp)];dsimp only;rw[if_neg (by simp)];rw[rA (cU _),aD,xQ (by grind),aD,aD,Aw (by grind),aD,fZ (cU _),aD,Aw (by grind),aD,bS (show i<1000000 by omega)];rw[xA,List.drop_length,Ep];refine v _ ⟨rfl,Od.2 ⟨k.bK,by simp,λa z b A=>?_⟩,λx=>?_,by grind⟩
    ·grind [List.getElem_of_mem]
    ·rw[t,nj,AQ,nj,AQ,k.mem]
     grind
 ·obtain ⟨T,y⟩:=x;obtain ⟨rfl,k⟩:=g;dsimp only at k ⊢;rw[if_neg (by simp),aZ]
  simp_all
theorem LH{q:iB}(hq:ru q):bM (zbK 5000 q) (Db q):=by
 have o:=hq.yY;have p:=hq.cB.len;unfold zbK;refine jb q.L.length (λi x=>x.1=(i:Int)/\x.2.length=1+2 * i/\∀y,y∈x.2↔y=q.aR∨∃u∈q.L.take i,y=u.bN∨y=u.To) (λi x f b d j=>?_) (λx f d=>?_) ⟨rfl,rfl,λy=>by simp⟩ (by omega)
 ·obtain ⟨y,T⟩:=x;obtain ⟨rfl,g,a⟩:=d;dsimp only at g a ⊢;rw[if_pos (cK b)];simp only[bV b,Option.bind_some];rw[Aw (by grind),aD,Aw (by grind),aD,bS (show i<1000000 by omega)];refine j _ ⟨rfl,by grind,λy=>?_⟩;rw[GN b];simp only[nj,AQ,a];constructor
  ·rintro (((h | ⟨u,h1,h2⟩) | h) | h)
   ·omega
   ·grind
   ·simp_all
   simp_all
  grind
 ·obtain ⟨y,n⟩:=x;obtain ⟨rfl,k,e⟩:=d;dsimp only at k e ⊢;rw[if_neg (by simp)];rw[xA] at e;refine jb q.ay.length (λi x=>x.1=(i:Int)/\x.2.length=n.length+2 * i/\∀y,y∈x.2↔y∈n∨∃u∈q.ay.take i,y=u.bN∨y=u.To) (λi x f b d j=>?_) (λx f d=>?_) ⟨rfl,rfl,λy=>by simp⟩ (by omega)
  ·obtain ⟨y,T⟩:=x;obtain ⟨rfl,g,a⟩:=d;dsimp only at g a ⊢;rw[if_pos (cK b)];simp only[bV b,Option.bind_some];rw[Aw (by grind),aD,Aw (by grind),aD,bS (show i<1000000 by omega)];refine j _ ⟨rfl,by grind,λy=>?_⟩;rw[GN b];simp only[nj,AQ,a];constructor
   ·rintro (((h | ⟨u,h1,h2⟩) | h) | h)
    ·simp_all
    ·grind
    ·simp_all
    simp_all
   grind
  ·obtain ⟨y,T⟩:=x;obtain ⟨rfl,g,a⟩:=d;dsimp only at g a ⊢;rw[if_neg (by simp)];rw[xA] at a;refine (XW T (by omega) q.aR).bind λR m=>?_;rw[aZ];refine ⟨m.bK,λx=>?_,by have:=m.len;omega⟩;rw[m.mem,a,e,or_assoc];rfl
end Go.Plain
end
section
namespace Go.Plain
open Go.Abs
theorem jn_ite{X R:Type}{r:X->Option R}{c:Prop}[Decidable c]{a b:X}:jn r (λj=>if c then j a else j b)=r (if c then a else b):=by grind [Go.Abs.jn]
theorem QN{l:List cV}{n:Int}(h:ba l n){i:Int}:dM l i > 0↔∃x∈l,x.Node=i:=by
 have b:∀x∈l,1<=x.aL:=λx a=>(h.mem x a).2.2.1;clear h;induction l with
 |nil=>simp[dM]
 |cons y l ih=>
  have d:=ih λx a=>b x (pM _ a);have f:=b y (sq ..);have g:=xV (l:=l) (λx a=>by grind) i;have e:dM (y::l) i=(if y.Node=i then y.aL else 0)+dM l i:=by simp[dM]
  grind
def zP(st:cf)(node b:Int)(a:bF):Prop:=∃j∈st.ai,j.Id=a.aV/\(∃x∈a.ae,x.Node=node)/\b<j.Start+j.aW
theorem Vp{s:bm}{st:cf}(v:lm s st)(R:Xu s st)(node d:Int):bM (zdK 5000 st node d) λb=>dv s st->(b=true↔∃a∈st.ah,zP st node d a):=by
 have T:=v.bg;have O:=v.b_;unfold zdK;refine vk st.ah (λi a=>dv s st->¬zP st node d a) (λi f t L w=>?_) (λf L=>?_) (by omega)
 ·simp only[dW,cK t,if_true,bV t,Option.bind_some,bS (show i<1000000 by omega)];have u:=bC t;refine (qh (by omega) st.ah[i].aV).bind λr y=>?_;rw[bp];refine ⟨λh=>?_,λh=>?_⟩
  ·simp only[br] at h;have g:=y.2.1 h;have S:=(R.each i t).shares;obtain ⟨M,e⟩:=Eh (l:=st.ai) g.lo (by have:=g.lo;have:=g.hi;omega);have z:=bC M;have fin:bM (if decide (i64.wrap (st.ai[r.toNat].Start+st.ai[r.toNat].aW) > d)=true then some true else f ((i+1:Nat):Int)) (λb=>(∃x∈st.ah[i].ae,x.Node=node)->dv s st->(b=true↔∃a∈st.ah,zP st node d a)):=by
    rw[bp];refine ⟨λk=>?_,λk=>?_⟩
    ·rw[aZ];intro E J;have o:=(J.each _ z).ok;have:=o.start;have:=o.wall;rw[wr (by omega) (by omega)] at k;simp only[br] at k;exact ⟨λ_=>⟨_,u,_,z,g.is,E,k⟩,λ_=>rfl⟩
    ·refine (w λJ G=>?_).mono λb P _=>P;obtain ⟨j,n,K,-,N⟩:=G;have:j=st.ai[r.toNat]:=by
      obtain ⟨m,Q,rfl⟩:=ky n;have:=J.bK.inj Q M (by rw[K,g.is])
      simp_all
     subst this;have o:=(J.each _ z).ok;have:=o.start;have:=o.wall;rw[wr (by omega) (by omega)] at k
     simp_all
   rw[OZ (lQ (v.shares _ u) (by decide)) S,aD,e,bp];simp only[Option.bind_some];refine ⟨λk=>?_,λk=>?_⟩
   ·simp only[br] at k
    grind [QN]
   ·simp only[br] at k;rw[if_neg (by simp)];exact w λJ ⟨j,n,K,p,N⟩=>k ((QN S).2 p)
  ·simp only[br] at h;rw[if_neg (by simp)];exact w λJ ⟨j,n,K,p,N⟩=>by simp_all
 ·simp only[eC,bT,cn,aZ,FE];rintro J ⟨a,u,G⟩;exact CW (A:=λa=>dv s st->¬zP st node d a) L a u J G
theorem UI{s:bm}{st:cf}(y:lm s st)(R:Xu s st):bM (zdO 5000 s st) λb=>dv s st->(b=true↔zl s st):=by
 have E:=y.cB;unfold zdO;refine vk st.ay (λi b=>(b.Id<st.cX/\st.aR<b.To)/\(dv s st->¬∃a∈st.ah,zP st b.Node b.bN a)) (λi f k z n=>?_) (λf z=>?_) (by omega)
 ·simp only[dW,cK k,if_true,bV k,Option.bind_some,bS (show i<1000000 by omega)];have d:=bC k;rw[bp];refine ⟨λh=>?_,λh=>?_⟩
  ·rw[aZ];intro J;simp only[gq,br] at h;simp only[bT,FE];exact λq=>by have:=q.live _ d;omega
  ·simp only[gq,br] at h;refine (Vp y R _ _).bind λr g=>?_;rw[bp];refine ⟨λo=>?_,λo=>n ⟨by omega,λJ=>λq=>o ((g J).2 q)⟩⟩;rw[aZ];intro J;simp only[bT,FE];intro q;obtain ⟨a,p,j,t,e,⟨x,u,v⟩,w⟩:=(g J).1 o;exact q.vm a p j t e x u _ d v.symm w
 ·simp only[eC,bT,cn];refine (VQ _ _ (by omega)).bind λr n=>?_;rw[aZ];intro J;rw[n];refine ⟨λh=>⟨h,λb d=>?_,λa p j t e x u b d v w=>?_⟩,λq=>q.cB⟩
  ·grind [List.getElem_of_mem]
  ·obtain ⟨m,A,rfl⟩:=ky d;exact (z m A).2 J ⟨a,p,j,t,e,⟨x,u,v.symm⟩,w⟩
structure AtA (l:List bF) (id:Int) (r:Int):Prop where
 lo:0<=r
 hi:r.toNat<l.length
 is:l[r.toNat].aV=id
theorem Uy{l:List bF}(g:l.length<=300)(id:Int):bM (zbO 5000 l id) λr=>(0<=r↔∃a∈l,a.aV=id)/\(0<=r->AtA l id r):=by
 unfold zbO;refine vk l (λ_ j=>j.aV≠id) (λi f h _ b=>?_) (λf h=>?_) (by omega)
 ·simp only[cK h,if_true,bV h,Option.bind_some,bS (show i<1000000 by omega),bp,aZ,nK];exact ⟨λe=>⟨⟨λ_=>⟨_,bC h,e⟩,λ_=>by omega⟩,λ_=>⟨by omega,by omega,by simp_all⟩⟩,λe=>b e⟩
 ·simp only[eC,bT,cn,aZ];refine ⟨⟨λh=>by omega,λ⟨j,d,e⟩=>absurd e (CW (A:=λj=>j.aV≠id) h j d)⟩,λh=>by omega⟩
theorem Xu.Bl{s:bm}{st:cf}(R:Xu s st){i j:Nat}(o:i<st.ah.length)(u:j<st.ah.length)(e:st.ah[i].aV=st.ah[j].aV):i=j:=by
 have pw:(st.ah.map (·.aV)).Pairwise (·<·):=Pr λi o=>by rw[VG,VG];exact (R.each (i+1) (by simp_all)).up i (by grind) rfl
 grind [List.pairwise_iff_getElem]
structure PS (s:bm) (st:cf) (j:aK):Prop where
 Oi:my s st j
 waits:Hn s st j
 has:YI s st j
theorem ref_job{s:bm}(k:bn s){st:cf}(t:lm s st)(R:Xu s st){j:aK}(T:j∈st.ai):fH (zeX 5000 s st j) (PS s st j):=by
 have kv:=k.ua;have hl:=t.bg;have E:=t.b_;unfold zeX;refine (xr j (t.after j T)).bind λr u=>?_;rw[bp];refine ⟨λh=>cY λq=>?_,λh=>?_⟩
 ·have:=u.2 q.Oi.ok;rw[this] at h;simp only[gq,br,Om,bT,false_or] at h;have:=q.Oi.next;have:=q.Oi.user;have:=q.Oi.queue;have:=q.Oi.born;have:=q.Oi.start;have:=q.Oi.fin;omega
 ·simp only[gq,br,not_or,iF,oE] at h;have p:=u.1 h.1.1.1.1.1.1;have U:=p.state.st;have X:=p.start;have Y:=p.wall;simp only[jn_ite];generalize Z:(if decide (j.State≥5)=true then (3:Int) else if (j.State == 4)=true then 2 else if (j.State == 3)=true then 1 else 0)=e;have ev:e=jm j.State:=by
   rw[<-Z];simp only[jm,br,nK,ge_iff_le];omega
  have eb:=Ez j.State;refine (Uy E j.Id).bind λr8 v=>?_;simp only[dW,ze4,Option.bind_some];rw[ev,wr (x:=s.aI+jm j.State) (by omega) (by omega),bp];refine ⟨λO=>cY λq=>?_,λO=>?_⟩
  ·have:=q.Oi.version
   grind
  ·simp only[br] at O;have I:my s st j:=⟨p,by omega,by omega,by omega,by omega,by omega,by omega,by omega⟩;have eh:((j.State == 3) || (j.State == 4))=s_ j:=rfl;rw[eh,bp];refine ⟨λh3=>cY λq=>?_,λh3=>?_⟩
   ·have:=q.has.has
    simp_all
   ·have n:(∃a∈st.ah,a.aV=j.Id)↔s_ j=true:=by
     grind
    rw[bp];refine ⟨λG=>qD ?_,λG=>?_⟩
    ·simp only[br] at G;refine ⟨I,λhs=>by omega,n,λa A e=>?_⟩
     grind
    ·simp only[br] at G;have A:=p.kJ;refine vk j.aF (λ_ d=>∃i∈st.ai,i.Id=d.aV) (λm g w P hr=>?_) (λg P=>?_) (by omega)
     ·simp only[cK w,if_true,bV w,Option.bind_some,bS (show m<1000000 by omega)];refine (qh (by omega) j.aF[m].aV).bind λr y=>?_;rw[bp];refine ⟨λz=>cY λq=>?_,λz=>hr (y.1.1 ?_)⟩
      ·have:=y.1.2 ((q.waits (by omega)).after _ (bC w))
       simp_all
      simp_all
     ·simp only[eC,bT,cn];obtain ⟨b,e1,e2⟩:=SZ t.spec k (q:=j.Queue) (m:=j.aL) p.need p.tX;rw[e2,aD,bp];refine ⟨λz=>cY λq=>?_,λz=>?_⟩
      ·have:=(q.waits (by omega)).fits
       simp_all
      ·simp only[iF,oE] at z;subst z;have W:Hn s st j:=λ_=>⟨e1,CW P⟩;rw[bp];refine ⟨λK=>qD ⟨I,W,n,λa A e=>?_⟩,λK=>?_⟩
       ·simp_all
       ·simp only[iF,oE] at K;have r0:=v.1.2 (n.2 K);have f:=v.2 r0;obtain ⟨Q,e3⟩:=Eh (l:=st.ah) f.lo (by have:=f.lo;have:=f.hi;omega);have o:=bC Q;rw[wr (x:=j.Start+j.aW) (by omega) (by omega),e3,bp];simp only[Option.bind_some];refine ⟨λL=>?_,λL=>cY λq=>?_⟩
        ·simp only[br] at L;rw[bp];refine ⟨λM=>?_,λM=>cY λq=>M (gP.2 (q.has.XF _ o f.is).need)⟩;have eN:=gP.1 M;refine (Me t.spec k j _ (lQ (t.shares _ o) (by decide))).bind λr N=>?_;rw[aZ,N];refine ⟨λS=>⟨I,W,n,λa A e=>?_⟩,λq=>(q.has.XF _ o f.is).ny⟩;have:a=st.ah[r8.toNat]:=by
          obtain ⟨m,w,rfl⟩:=ky A;have:=R.Bl w Q (by rw[e,f.is])
          simp_all
         subst this;exact ⟨e,eN,S,L⟩
        ·have:=(q.has.XF _ o f.is).now
         simp_all
theorem He{s:bm}{st:cf}(d:lm s st):fH (zcR 5000 s st) (bo s st):=by
 have hl:=d.bg;have hq:=d.stamps;have T:=d.use;unfold zcR;simp only[dW];refine (Tm s d.spec).bind λr g=>?_;rw[bp];refine ⟨λh=>?_,λh=>?_⟩
 ·rw[if_pos trivial];refine cY λq=>?_;have:=g.2 q.spec;rw[this] at h;have W:=q.spec.ids;have:=q.nums.now;have:=q.nums.next;have:=q.nums.book;rw[wr (x:=s.lc+1) (by omega) (by omega)] at h
  grind
 ·simp only[gq,br,not_or,iF,oE] at h;have k:=g.1 h.1.1.1.1.1;have W:=k.ids;rw[wr (x:=s.lc+1) (by omega) (by omega)] at h;refine (IY st.cX).bind λr2 n=>?_;rw[bp];refine ⟨λy=>cY λq=>?_,λy=>?_⟩
  ·have:=n.2 (by have:=q.nums.book;omega)
   simp_all
  ·simp only[iF,oE] at y;have u2:=n.1 y;have X:OV s st:=⟨by omega,by omega,by omega⟩;rw[bp];refine ⟨λP=>?_,λP=>?_⟩
   ·rw[if_pos trivial];refine cY λq=>?_;have:=q.bg.len
    grind
   ·simp only[br] at P;refine (OD d).bind λr4 z=>?_;rw[bp];refine ⟨λA=>?_,λA=>?_⟩
    ·rw[if_pos trivial];refine cY λq=>?_
     grind [Fk,bo.bg,bo.b_]
    ·simp only[iF,oE] at A;have R:=z.1 A;refine (UI d R).bind λr5 E=>?_;rw[bp];refine ⟨λG=>?_,λG=>?_⟩
     ·rw[if_pos trivial];refine cY λq=>?_
      grind [bo.bg,bo.jf]
     ·simp only[iF,oE] at G;refine (ref_use st.gF s.aU (by omega)).bind λr6 o=>?_;rw[bp];refine ⟨λv=>?_,λv=>?_⟩
      ·rw[if_pos trivial];refine cY λq=>?_;have:=o.2 ⟨q.use.len,q.use.use⟩;rw[this] at v;have:=q.use.qlen
       simp_all
      ·simp only[gq,Ip,ne_eq,not_or,Ua,iF,oE] at v;have Q:=o.1 v.1;refine (IY st.aA.am).bind λr7 p=>?_;rw[bp];refine ⟨λK=>cY λq=>?_,λK=>?_⟩
       ·have:=p.2 q.use.nodes
        simp_all
       ·simp only[iF,oE] at K;have Y:=p.1 K;refine vk st.aA.aj (λ_ x=>0<=x/\x<=281474976710656) (λi f a _ w=>?_) (λf Z=>?_) (by omega)
        ·simp only[cK a,if_true,bV a,Option.bind_some,bS (show i<1000000 by omega)];refine (IY _).bind λr8 t=>?_;rw[bp];refine ⟨λh8=>cY λq=>?_,λh8=>w (t.1 (by simp_all))⟩;have:=t.2 (q.use.stamps _ (bC a))
         simp_all
        ·simp only[eC,bT,cn];have U:LM s st:=⟨Q.1,Q.2,by omega,Y,CW Z⟩;refine vk st.ai (λi j=>PS s st j/\Ku st.ai i<j.Id) (λi f a _ w=>?_) (λf S=>?_) (by omega)
         ·have hd:decide ((i:Int) > 0)=decide (0<i):=by simp
          have b:=bC a;simp only[cK a,if_true,bV a,Option.bind_some,bS (show i<1000000 by omega),hd];refine (ref_job k d R b).bind λr9 u=>?_;rw[bp];refine ⟨λL=>cY λq=>?_,λL=>?_⟩
          ·have:=u.2 ⟨q.bg.each _ b,q.waits _ b,(Fk k q.bg q.b_).2 _ b⟩
           simp_all
          ·simp only[iF,oE] at L;have M:=u.1 L;rw[bp];refine ⟨λe=>?_,λe=>?_⟩
           ·simp only[br] at e;obtain ⟨m,rfl⟩:∃m,i=m+1:=⟨i-1,by omega⟩;rw[wp1 (show m+1<1000000 by omega),bV (show m<st.ai.length by omega),aD,bp];refine ⟨λN=>cY λq=>?_,λN=>w ⟨M,?_⟩⟩
            ·have:=q.bg.bK m a
             grind
            ·rw[vO (by omega)]
             simp_all
           ·simp only[br] at e;have:i=0:=by omega
            subst this;refine w ⟨M,?_⟩;have:=M.Oi.ok.id
            grind [Ku]
         ·simp only[eC,bT,cn];have O:dv s st:=Sr (by omega) λi a=>⟨(S i a).1.Oi,(S i a).2⟩;have all:∀j∈st.ai,PS s st j:=λj b=>by
           grind [List.getElem_of_mem]
          exact qD ⟨k,X,O,λj b=>(all j b).waits,Wd k O R λj b=>(all j b).has,(E O).1 G,U⟩
end Go.Plain
end
section
namespace Go.Plain
open Go.Abs
theorem rD{l:List Int}(h:l.length<=1000000):zaV 5000 l=some l:=by unfold zaV;exact xQ h
theorem Dn{s:bm}(hs:lq s):zcV 5000 s=some s:=by
 have g:=hs.nodes;have h:=hs.parts;have j:=hs.gX;unfold zcV;rw[GP (by omega),aD,show zcq 5000 s.aH=some s.aH from xQ (by omega),aD];refine bM.eq (jb s.aH.length (λi x=>x=((i:Int),s.aH)) (λi x f a b d=>?_) (λx f b=>?_) rfl (by omega))
 ·subst b;have e:=hs.part _ (bC a);simp only[cK a,if_true,bV a,Option.bind_some,bS (show i<1000000 by omega),rD (show s.aH[i].length<=1000000 by omega),Int.toNat_natCast,yBQ]
  simp_all
 ·subst b;simp only[eC,bT,cn];rw[show zbg 5000 s.aj=some s.aj from xQ (by omega),aD];refine jb s.aj.length (λi x=>x=((i:Int),s.aj)) (λi x f a b d=>?_) (λx f b=>?_) rfl (by omega)
  ·subst b;have e:=hs.queue _ (bC a);simp only[cK a,if_true,bV a,Option.bind_some,bS (show i<1000000 by omega),rD (show s.aj[i].aU.length<=1000000 by omega),Int.toNat_natCast,yBQ];exact d _ (Prod.ext rfl (yBQ a))
  ·subst b;simp only[eC,bT,cn,aZ]
theorem UT{n:Int}(h:1<=n/\n<=8):ql 5000 n=some (List.replicate n.toNat 0):=by simp only[ql,zcm];rw[if_neg (by grind),if_neg (by simp_all)];simp only[Option.bind_some,FG];rw[if_pos (by omega)];rfl
theorem UC{n:Int}(h:1<=n/\n<=256):zeg 5000 n=some (.inr n):=by
 simp only[zeg]
 simp_all
theorem new_ok{s:bm}(hs:lq s)(k:bn s):fB 5000 s=some (.inr (List.replicate s.aj.length 0,[],s.am,s.aH,s.aj,s.aU,s.aq.nV,s.aq.cZ,s.aq.gy,s.aq.bZ,s.cr,s.Mode,s.ai,s.lc,s.aI,s.bx,s.dw,s.In,s.Out,s.cq,0,1,1,List.replicate s.aU.toNat 0,0,s.ai,s.am)):=by have a:=hs.gX;unfold fB;rw[BB hs k,aD,if_neg (by simp),UC k.bg,aD];dsimp only;rw[Ea hs k,aD];dsimp only;rw[Dn hs,aD,UT k.zF,aD];unfold FG;rw[if_pos (by omega),aD];rw[xAc]
theorem Di{j:aK}(h:j.aF.length<=1000000):ja 5000 j=some j:=by unfold ja;rw[show zaD 5000 j.aF=some j.aF from xQ h];rfl
theorem MR{l:List aK}(e:l.length<=300)(d:∀j∈l,j.aF.length<=10):zcP 5000 l=some l:=by
 unfold zcP;rw[show zbH 5000 l=some l from xQ (by omega),aD];refine bM.eq (jb l.length (λi x=>x=((i:Int),l)) (λi x f a b g=>?_) (λx f b=>?_) rfl (by omega))
 ·subst b;have h:=d _ (bC a);simp only[cK a,if_true,bV a,Option.bind_some,bS (show i<1000000 by omega),Di (show l[i].aF.length<=1000000 by omega),Int.toNat_natCast,yBQ]
  simp_all
 ·subst b;simp only[eC,bT,cn,aZ]
def mapA(A:List bF):List (Int×bF):=A.map λa=>(a.aV,a)
def zu(A:List bF):Prop:=(A.map (·.aV)).Pairwise (·<·)
theorem XP{A:List bF}(h:zu A):∀i (d:i<A.length),cI (mapA A) A[i].aV=some A[i]:=by
 induction A with
 |nil=>simp_all
 |cons a A ih=>
  unfold zu at h;rw[sH,yBl] at h;intro i d
  match i,d with
  |0,d=>simp[mapA,cI]
  |i + 1, d=>
   have b:i<A.length:=by simp_all
   have:=h.1 A[i].aV (iQ.2 ⟨_,bC b,rfl⟩);have e:cI (mapA (a::A)) A[i].aV=cI (mapA A) A[i].aV:=by
    simp only[mapA,sH,cI]
    grind
   rw[List.getElem_cons_succ,e];exact ih h.2 i b
theorem Ia{A:List bF}{q:Int}(h:∀a∈A,a.aV≠q):cI (mapA A) q=none:=by
 induction A with
 |nil=>rfl
 |cons a A ih=>simp only[mapA,sH,cI];rw[if_neg (h a (sq ..))];exact ih λb d=>h b (pM _ d)
theorem Yi{A:List bF}{a:bF}(h:∀b∈A,b.aV≠a.aV):jI (mapA A) a.aV a=mapA (A++[a]):=by
 induction A with
 |nil=>rfl
 |cons b A ih=>
  have:=ih λc d=>h c (pM _ d);simp only[mapA,List.cons_append,sH,jI] at this ⊢
  simp_all
theorem i64wf{n:Int}(h:0<=n/\n<=1048576):(Lit.int .i64 n).wf=true:=by
 have a:IntKind.i64.min=-9223372036854775808:=by decide
 have b:IntKind.i64.max=9223372036854775807:=by decide
 simp only[Lit.wf,bH,br,a,b];omega
theorem JA{A:List bF}(i:A.length<=300)(h:zu A)(j:∀a∈A,0<=a.aV/\a.aV<=1048576):zR (λk=>k) (mapA A)=some (A.map (·.aV)):=by
 have e:(mapA A).map Prod.fst=A.map (·.aV):=by simp[mapA]
 unfold zR;have b:∀p∈mapA A,(Lit.int .i64 p.1).wf=true:=λp d=>by
  obtain ⟨a,m,rfl⟩:=iQ.1 d
  grind [i64wf]
 have f:(A.map (·.aV)).Nodup:=h.imp λh=>by omega
 have g:(mapA A).length<=1000000:=by grind [mapA]
 rw[e,if_pos ⟨g,f,b⟩,List.mergeSort_of_pairwise (h.imp λh=>by grind)];simp
theorem Eb{A:List bF}(j:A.length<=300)(h:zu A)(k:∀a∈A,0<=a.aV/\a.aV<=1048576)(hs:∀a∈A,a.ae.length<=300):aY 5000 (mapA A)=some A:=by
 unfold aY;rw[JA j h k,aD];refine bM.eq (jb (A.map (·.aV)).length (λi x=>x=((i:Int),A.take i)) (λi x f g d m=>?_) (λx f d=>?_) (by simp) (by grind))
 ·subst d;have b:i<A.length:=by simp_all
  have e:=XP h i b;have n:=hs _ (bC b);simp only[cK g,if_true,bV g,Option.bind_some,bS (show i<1000000 by omega),VG,e,oel,GZ (show A[i].ae.length<=1000000 by omega)]
  grind [Aw,List.take_succ_eq_append_getElem]
 ·subst d;simp only[eC,bT,cn,aZ,xF,xA]
theorem BR{l:List gM}(h:l.length<=1000000):zaP 5000 l=some l:=by unfold zaP;exact xQ h
theorem beq_dep(a:Of):Of.beq a a=true:=by simp[Of.beq]
theorem Uf(a:cV):cV.beq a a=true:=by simp[cV.beq]
theorem Zf(a:gM):gM.beq a a=true:=by simp[gM.beq]
theorem Mz(a:aE):aE.beq a a=true:=gP.2 rfl
theorem lpT{α:Type}{b:(Int->Option Bool)->Int->Option Bool}(l:List α)(hs:∀(i:Nat)(f:Int->Option Bool)(h:i<l.length),b f (i:Int)=f ((i+1:Nat):Int))(a:∀f,b f (l.length:Int)=some true){N:Nat}(d:l.length<N):bz b N 0=some true:=
 bM.eq (vk l (λ_ _=>True) (λi f h _ e=>by simp_all) (λf _=>by rw[a];exact ⟨_,rfl,rfl⟩) d)
theorem vP(l:List Int)(a:l.length<=300):zc5 5000 l l=some true:=by
 unfold zc5;rw[if_neg (by simp)];refine lpT l (λi f h=>?_) (λf=>?_) (by omega)
 ·simp only[cK h,if_true,bV h,Option.bind_some,bS (show i<1000000 by omega),yCh,bT,cn]
 ·simp only[eC,bT,cn]
theorem ZC(j:aK)(a:j.aF.length<=300):zem 5000 j j=some true:=by
 unfold zem;rw[if_neg (by simp)];refine lpT j.aF (λi f h=>?_) (λf=>?_) (by omega)
 ·simp only[cK h,if_true,bV h,Option.bind_some,bS (show i<1000000 by omega),beq_dep,Om,bT,cn]
 ·simp only[eC,bT,cn,yBV,Mz,Bool.and_self]
theorem HU(l:List aK)(b:l.length<=300)(a:∀j∈l,j.aF.length<=10):zey 5000 l l=some true:=by
 unfold zey;rw[if_neg (by simp)];refine lpT l (λi f h=>?_) (λf=>?_) (by omega)
 ·have:=a _ (bC h);simp only[cK h,if_true,bV h,Option.bind_some,bS (show i<1000000 by omega),ZC l[i] (by omega),Om,bT,cn]
 ·simp only[eC,bT,cn]
theorem Nk(l:List cV)(a:l.length<=300):zeu 5000 l l=some true:=by
 unfold zeu;rw[if_neg (by simp)];refine lpT l (λi f h=>?_) (λf=>?_) (by omega)
 ·simp only[cK h,if_true,bV h,Option.bind_some,bS (show i<1000000 by omega),Uf,Om,bT,cn]
 ·simp only[eC,bT,cn]
theorem Cf(l:List bF)(d:l.length<=300)(b:∀a∈l,a.ae.length<=300):zek 5000 l l=some true:=by
 unfold zek;rw[if_neg (by simp)];refine lpT l (λi f h=>?_) (λf=>?_) (by omega)
 ·have:=b _ (bC h);simp only[dW,cK h,if_true,bV h,Option.bind_some,bS (show i<1000000 by omega),yCh,Mz,Nk l[i].ae this,Om,bT,cn]
 ·simp only[eC,bT,cn]
theorem DA(l:List gM)(a:l.length<=300):zeo 5000 l l=some true:=by
 unfold zeo;rw[if_neg (by simp)];refine lpT l (λi f h=>?_) (λf=>?_) (by omega)
 ·simp only[cK h,if_true,bV h,Option.bind_some,bS (show i<1000000 by omega),Zf,Om,bT,cn]
 ·simp only[eC,bT,cn]
theorem Pd{s:bm}{st:cf}(a:lm s st):bP 5000 st st=some true:=by have b:=a.bg;have d:=a.use;have e:=a.stamps;have f:=a.cB;unfold bP;rw[if_pos (by simp),HU _ (by omega) a.after,aD,if_pos rfl,Cf _ a.b_ a.sh,aD,if_pos rfl,DA _ (by omega),aD,if_pos rfl,vP _ (by omega),aD,if_pos rfl,vP _ (by omega),aD];simp
end Go.Plain
end
section
namespace Go.Plain
open Go.Abs
theorem Nc{l:List aK}(h:bQ l)(n:Nat):bQ (l.take n):=λi a=>by rw[Cs] at a;rw[Sn,Sn];exact h i (by omega)
theorem Za{l:List aK}(d:l.length<=300)(hs:bQ l){id:Int}(h:∀j∈l,j.Id<id):zaH 5000 l id=some ((l.length:Int),false):=by
 unfold zaH;have e:(bz (λb (a:Int×Int)=>
   if (decide (a.1<a.2))=true then
    (
     (aB l (i64.wrap (Int.fdiv (u64.wrap (i64.wrap (a.1+a.2))) (2 ^ 1)))).bind λg=>
     some (decide (g.Id≥id))).bind λk=>
    if (!k)=true then
     b ((i64.wrap ((i64.wrap (Int.fdiv (u64.wrap (i64.wrap (a.1+a.2))) (2 ^ 1)))+1)),a.2)
    else
     b (a.1,(i64.wrap (Int.fdiv (u64.wrap (i64.wrap (a.1+a.2))) (2 ^ 1))))
   else
    some a.1) 5000 (0,(l.length:Int)))=some (l.length:Int):=by
  refine bM.eq (half d hs id (λj=>some (decide (j.Id<id))) (λj n=>rfl) (λi=>some i) (λi m o p=>?_) _ (λf x=>?_))
  ·rw[aZ];rcases XI m with q | q
   ·grind
   ·rw[q]
  grind
 simp_all
theorem put_ok{l:List aK}{n:Nat}(hn:n<l.length)(d:l.length<=300)(hs:bQ l){m:Int}(hm:(l.length:Int)<=m)(a:fj l[n]):zbZ 5000 (l.take n) l[n] m=some (l.take (n+1),0):=by
 obtain ⟨r,e,h⟩:=AN l[n];have b:=h.2 a;subst b;have f:=a.kJ;have g:(l.take n).length=n:=by grind
 unfold zbZ;rw[e,aD,if_neg (by simp),Za (by omega) (Nc hs n) (λj a=>?_),aD]
 ·rw[if_neg (by simp),if_neg (by grind),Di (by omega),aD];unfold zbj;have sl:slice? (l.take n) ((l.take n).length:Int) ((l.take n).length:Int)=some []:=by
   unfold slice?
   simp_all
  rw[sl,aD,if_neg (by simp),if_pos (by simp),Aw (by grind),aD,aD,GN hn]
 ·obtain ⟨i,k,rfl⟩:=ky a;rw[Sn];exact hs.lt (by omega) hn
def dg(F:List aE)(l:List bF):List aE:=l.foldl kP F
structure TInv (s:bm) (st:cf) (i:Nat) (x:Int×(List aE)×List (Int×bF)):Prop where
 ix:x.1=(i:Int)
 h:∃H,eO s st H (st.ah.drop i) x.2.1
 len:x.2.1.length=s.am.length
 ZF:∀r∈x.2.1,aM r
 m:x.2.2=mapA (st.ah.take i)
 fr:x.2.1=dg s.am (st.ah.take i)
theorem Bx{s:bm}{st:cf}(q:bo s st):zu st.ah:=by have h:=(oT q.b_ q.spec.nodes.ok).1;unfold zu;rw[h];exact Iz q.bg
theorem Hl{s:bm}{st:cf}(q:bo s st):∀a∈st.ah,0<=a.aV/\a.aV<=1048576:=λa b=>by
 obtain ⟨j,d,P⟩:=q.b_.mem a b;have:=(q.bg.each j d).ok.id
 grind [e_.Fs]
theorem of_ok{s:bm}{st:cf}(d:lm s st)(q:bo s st):dD 5000 s st=some (.inr (st.aA.aj,st.ai,(st.ah.map λa=>(a.aV,a)),s.am,s.aH,s.aj,s.aU,s.aq.nV,s.aq.cZ,s.aq.gy,s.aq.bZ,s.cr,s.Mode,s.ai,s.lc,s.aI,s.bx,s.dw,s.In,s.Out,s.cq,st.aR,st.Next,st.cX,st.ay,st.gF,st.aA.am,s.ai,dg s.am st.ah)):=by
 have U:=d.bg;have W:=d.b_;have hn:=d.spec.nodes;have O:=d.cB;have hu:=d.use;have hs:=d.stamps;obtain ⟨r,e,h⟩:=E_ d;have n:=h.2 q;subst n;have X:=q.bg.len;have A:=Bx q;unfold dD;rw[e,aD,if_neg (by simp),new_ok d.spec q.spec,aD];dsimp only;refine bM.eq ?_;refine jb st.ai.length (λi x=>x=((i:Int),st.ai.take i)) (λi x f g k n=>?_) (λx f k=>?_) rfl (by omega)
 ·subst k;simp only[cK g,if_true,bV g,Option.bind_some,bS (show i<1000000 by omega),put_ok g U q.bg.bK X (q.bg.each _ (bC g)).ok,yCh,bT,cn]
  simp_all
 ·subst k;simp only[eC,bT,cn];refine jb st.ah.length (TInv s st) (λi x f g k n=>?_) (λx f k=>?_) ⟨rfl,⟨_,by rw[yCi];exact q.b_⟩,rfl,q.spec.nodes.ok,rfl,rfl⟩ (by omega)
  ·obtain ⟨Y,F,M⟩:=x;obtain ⟨o,t,u,v,w,y⟩:=k;dsimp only at o t u v w y;subst o;have Q:=bC g;have E:=d.sh _ Q;obtain ⟨H,G⟩:=t;rw[yBD g] at G;obtain ⟨j,Z,P⟩:=q.b_.mem _ Q;have K:=(q.bg.each j Z).ok;have L:vl F st.ah[i]/\∃R,eO s st R (st.ah.drop (i+1)) (kP F st.ah[i]):=by
    cases H with
    |nil=>cases (show st.ah[i]::st.ah.drop (i+1)=[] from G)
    |cons j' R=>
     obtain ⟨a',A',e',-,hf,n⟩:=G
     grind
   have S:∀b∈st.ah.take i,b.aV≠st.ah[i].aV:=λb O=>by
    obtain ⟨m,N,rfl⟩:=ky O;rw[Cs] at N;rw[Sn];have:=yAZ.1 A m i (by grind) (by simp_all) (by omega)
    grind
   have T:vx M F st.ah[i]:=⟨by have:=K.id;have:=P.Fs;omega,RJ (by have:=K.many;have:=P.ny.Uk;omega),by rw[u];exact P.ny.shares,by rw[P.need];exact K.need,by grind [Ia],L.1⟩;simp only[cK g,if_true,bV g,Option.bind_some,bS (show i<1000000 by omega)];refine (IE (M:=M) (a:=st.ah[i]) (F:=F) (by omega) E v).bind λr p=>?_;have z:=p.1.2 T;obtain ⟨eM,bh⟩:=p.2 z;rw[z];simp only[yCh,bT,cn];refine n _ ⟨rfl,?_,?_,?_,?_,?_⟩
   ·grind [rH.eq]
   ·grind [rH.eq,zeP]
   ·grind [rH.eq,uc]
   ·grind [Yi,List.take_succ_eq_append_getElem]
   grind [rH.eq,List.take_succ_eq_append_getElem,dg.eq_1]
  ·obtain ⟨Y,F,M⟩:=x;obtain ⟨o,t,u,v,w,y⟩:=k;dsimp only at o t u v w y;subst o;simp only[eC,bT,cn];rw[show za3 5000 st.ay=some st.ay from xQ (by omega),aD,show zbk 5000 st.gF=some st.gF from xQ (by omega),aD,show zbk 5000 st.aA.aj=some st.aA.aj from xQ (by omega),aD,aZ];rw[w,y,xA,xA];rfl
theorem of_no{s:bm}{st:cf}(a:lm s st)(q:¬bo s st):dD 5000 s st=some (.inl 2):=by
 obtain ⟨r,e,h⟩:=E_ a;have:r=false:=by simp_all
 grind [Go.Abs.dD]
theorem shown{s:bm}{st:cf}(b:lm s st)(q:bo s st) :
  QX 5000 st.aA.aj st.ai (st.ah.map λa=>(a.aV,a)) st.aR st.Next st.cX st.ay st.gF st.aA.am=some st:=by
 have d:=b.bg;have e:=b.cB;have f:=b.use;have hs:=b.stamps;unfold QX;rw[MR (by omega) b.after,aD,show aY 5000 (st.ah.map λa=>(a.aV,a))=some st.ah from Eb b.b_ (Bx q) (Hl q) b.sh,aD,BR (by omega),aD,rD (by omega),aD,show zb7 5000 st.aA.aj=some st.aA.aj from xQ (by omega),aD]
theorem Uu{s:bm}{st:cf}(b:lm s st)(q:bo s st):ce 5000 s st=some (.inr (st.aA.aj,st.ai,(st.ah.map λa=>(a.aV,a)),true,s.am,s.aH,s.aj,s.aU,s.aq.nV,s.aq.cZ,s.aq.gy,s.aq.bZ,s.cr,s.Mode,s.ai,s.lc,s.aI,s.bx,s.dw,s.In,s.Out,s.cq,st.aR,st.Next,st.cX,st.ay,st.gF,st.aA.am,s.ai,dg s.am st.ah)):=by obtain ⟨r,d,h⟩:=He b;have e:=h.2 q;subst e;unfold ce;rw[of_ok b q,aD];dsimp only;rw[d,aD,if_neg (by simp),shown b q,aD,Pd b,aD]
theorem TQ{s:bm}{st:cf}(a:lm s st)(q:¬bo s st):ce 5000 s st=some (.inl true):=by
 obtain ⟨r,b,h⟩:=He a;have:r=false:=by simp_all
 grind [Go.Abs.ce,of_no]
theorem rM{s:bm}(hs:lq s) :
  zaO 5000 s.am s.aH s.aj s.aU s.aq.nV s.aq.cZ s.aq.gy s.aq.bZ s.cr s.Mode s.ai s.lc s.aI s.bx s.dw s.In s.Out s.cq=some s:=by
 unfold zaO;rw[show zcV 5000 _=some s from Dn hs];rfl
end Go.Plain
end
section
namespace Go.Plain
open Go.Abs
theorem vW{l:List Int}{n:Int}(h:nE l n):(l.length:Int)<=n∨l=[]:=by
 have a:∀i,i<l.length->(i:Int)<=l[i]!:=by
  intro i;induction i with
  |zero=>
   intro b;have:=(h 0 b).1
   grind [KA]
  |succ i ih=>
   intro b;have d:=ih (by omega);have e:=(h (i+1) b).1
   grind [qt]
 cases f:l.length with
 |zero=>simp_all
 |succ m=>
  left;have d:=a m (by omega);have e:=(h m (by omega)).2
  grind
theorem jT{s:bm}(k:bn s):lq s:={
 nodes:=by have:=k.nodes.hi;omega
 parts:=by have:=k.parts.hi;omega
 gX:=by have:=k.gX.hi;omega
 part:=λp a=>by
  have b:=vW (k.parts.ok p a).2;have:=k.nodes.hi
  grind
 queue:=λq hq=>by
  have b:=vW (k.gX.ok q hq).zF;have:=k.zF
  grind }
theorem jr{l:List cV}{n:Int}(h:ba l n)(hn:0<=n):(l.length:Int)<=n:=by
 rcases vW h.node with a | a
 ·simp_all
 simp_all
theorem Uj{s:bm}{st:cf}(q:bo s st):lm s st:={
 spec:=jT q.spec
 bg:=by have:=q.bg.len;have:=q.spec.bg;omega
 after:=λj b=>by have:=(q.bg.each j b).ok.kJ;omega
 b_:=by have h:=(oT q.b_ q.spec.nodes.ok).1;have d:=Gy List.length h;simp only[xF] at d;have f:(st.ai.filter s_).length<=st.ai.length:=List.length_filter_le _ _;have:=q.bg.len;have:=q.spec.bg;omega
 cB:=by have:=q.jf.cB.len;omega
 use:=by have:=q.use.len;have:=q.spec.zF;omega
 stamps:=by have:=q.use.qlen;have:=q.spec.gX.hi;omega
 shares:=λa e=>by obtain ⟨j,b,P⟩:=q.b_.mem a e;have g:=jr P.ny.shares (by omega);have:=q.spec.nodes.hi;omega }
end Go.Plain
end
section
namespace Go.Plain
open Go.Abs
theorem Vg{u:Bf}{k t a:Int}(h:a<=t)(b:¬(a<u.bN/\u.bN<=t))(d:¬(a<u.To/\u.To<=t)):jY u k t=jY u k a:=by
 unfold jY
 grind
theorem Jp{L:List Bf}{k t a:Int}(h:∀u∈L,jY u k t=jY u k a):a_ L k t=a_ L k a:=by
 unfold a_;have:∀(M:List Bf)(r:aE),(∀u∈M,jY u k t=jY u k a)->M.foldl (λr u=>AP r (jY u k t)) r=M.foldl (λr u=>AP r (jY u k a)) r:=by
  intro M;induction M with
  |nil=>simp_all
  |cons u M ih=>simp_all
 simp_all
theorem BP{q:iB}{k t a:Int}(i:q.aR<=a)(h:a<=t)(e:∀x,q.aR<=x->timeV q x->¬(a<x/\x<=t)):bE q k t=bE q k a:=by
 have j:a_ q.L k t=a_ q.L k a:=Jp λu f=>Vg h (λg=>e u.bN (by omega) (.inr (.inl ⟨u,f,.inl rfl⟩)) g) λg=>e u.To (by omega) (.inr (.inl ⟨u,f,.inr rfl⟩)) g;have m:Ed q.ay k t↔Ed q.ay k a:=by
  constructor
  ·rintro ⟨b,d,h1,h2,h3⟩;refine ⟨b,d,h1,?_,by omega⟩;rcases yCl a b.bN with g | g
   ·exact absurd ⟨g,h2⟩ (e b.bN (by omega) (.inr (.inr ⟨b,d,.inl rfl⟩)))
   omega
  ·rintro ⟨b,d,h1,h2,h3⟩;refine ⟨b,d,h1,by omega,?_⟩;rcases yCl t b.To with g | g
   ·exact g
   ·exact absurd ⟨h3,g⟩ (e b.To (by omega) (.inr (.inr ⟨b,d,.inr rfl⟩)))
 unfold bE
 grind
theorem BD(T:List Int){a t:Int}(h:a<=t):∃x,(x=a∨x∈T)/\a<=x/\x<=t/\∀y∈T,y<=t->y<=x:=by
 induction T with
 |nil=>simp_all
 |cons y T ih=>grind
structure HO (q:iB) (a b:Int) (F:List aE):Prop where
 len:F.length=q.S.am.length
 low:∀(k:Nat)(h:k<F.length),PE (λt v=>v=bE q k t) a b F[k]
structure jx (q:iB) (w:AM):Prop where
 part:0<=w.Part/\w.Part<q.S.aH.length
 many:w.aL<=100000
 need:aM w.az
 tX:w.az≠bU
 wall:1<=w.aW/\w.aW<=65536
def cA(q:iB)(w:AM):List Int:=(q.S.aH[w.Part.toNat]?).getD []
theorem jH{q:iB}{w:AM}(h:jx q w):aB q.S.aH w.Part=some (cA q w)/\cA q w∈q.S.aH:=by
 obtain ⟨a,e⟩:=Eh h.part.1 h.part.2;have:cA q w=q.S.aH[w.Part.toNat]:=by grind [cA]
 simp_all
def Yj(q:iB):Prop:=∀(k t:Int),0<=k->k<q.S.am.length->q.aR<=t->aM (bE q k t)
theorem IS{V:Int->aE->Prop}{a b:Int}{r:aE}(h:PE V a b r)(d:∀t v,a<=t->V t v->aM v):aM r:=vY.2 λc=>by
 obtain ⟨t,v,f,g,i,e⟩:=h.cL c
 grind [vY]
theorem zb{F:List aE}{k:Nat}(h:k<F.length):kz F (k:Int)=F[k]:=by grind [kz]
theorem Jj{q:iB}(hq:ru q){w:AM}(b:jx q w){F:List aE}(f:F.length=q.S.am.length)(d:∀n∈cA q w,aM (kz F n)):pz F (cA q w):=by obtain ⟨_,a⟩:=jH b;have e:=hq.spec.parts.ok _ a;have hs:=(jT hq.spec).part _ a;refine ⟨by omega,λn hn=>?_,d⟩;have:=e.2.mem n hn;omega
theorem pf_when{q:iB}(hq:ru q)(P:Yj q){w:AM}(b:jx q w){t:Int}(h0:q.aR<=t)(ht:t<=1099511627776) :
  bM (Vw 5000 q w t) λr=>∃F,HO q t (t+w.aW) F/\r=CL F (cA q w) w.aL w.az:=by
 have nn:=hq.spec.nodes.hi;have Q:=hq.now;have wl:=b.wall;unfold Vw;rw[if_neg (by have:=b.part;simp_all),wr (x:=t+w.aW) (by omega) (by omega)];refine (LH hq).bind λT A=>?_;have tl:=A.len;refine jb q.S.am.length (λi x=>x.1=(i:Int)/\x.2.length=i/\∀(k:Nat)(h:k<x.2.length),PE (λt v=>v=bE q k t) t (t+w.aW) x.2[k]) (λi x f E a R=>?_) (λx f a=>?_) ⟨rfl,rfl,λk h=>by simp at h⟩ (by omega)
 ·obtain ⟨y,F⟩:=x;obtain ⟨rfl,d,m⟩:=a;dsimp only at d m ⊢;rw[if_pos (cK E)];refine (Rc hq E (by omega)).bind λr e=>?_;rw[e];refine jb T.length (λj x=>∃v:aE,x=((j:Int),v.bL,v.Mem,v.bO,v.bR)/\Gp (bE q i t::((T.take j).filter λy=>decide (t<y/\y<t+w.aW)).map (bE q i)) v) (λj x S p a G=>?_) (λx S a=>?_) ⟨bE q i t,rfl,Gp.one _⟩ (by omega)
  ·obtain ⟨v,rfl,o⟩:=a;simp only[dW];rw[if_pos (cK p)];simp only[bV p,Option.bind_some];rw[bS (show j<1000000 by omega)];have O:(T.take (j+1)).filter (λy=>decide (t<y/\y<t+w.aW))=(T.take j).filter (λy=>decide (t<y/\y<t+w.aW))++(if t<T[j]/\T[j]<t+w.aW then [T[j]] else []):=by
    rw[GN p,List.filter_append]
    grind
   have tm:=(A.mem T[j]).1 (bC p);by_cases g:t<T[j]
   ·rw[if_pos (by simp_all)];by_cases U:T[j]<t+w.aW
    ·rw[if_pos (by simp_all)];refine (Rc hq E (t:=T[j]) (by omega)).bind λs W=>?_;have K:zdL 5000 ({ bL:=v.bL,Mem:=v.Mem,bO:=v.bO,bR:=v.bR }:aE) s.1=some (tR v s.1):=WE v s.1;rw[K,aD];rw[if_pos ⟨g,U⟩] at O;refine G _ ⟨tR v s.1,rfl,?_⟩;rw[O,yBH,<-List.cons_append,W];exact o.add _
    grind
   grind
  ·obtain ⟨v,rfl,o⟩:=a;dsimp only;rw[if_neg (by simp)];rw[xA] at o;have K:bI F ([({ bL:=v.bL,Mem:=v.Mem,bO:=v.bO,bR:=v.bR }:aE)]:List aE)=some (F++[v]):=Aw (by grind);rw[K,aD,bS (show i<1000000 by omega)];have low:PE (λt v=>v=bE q i t) t (t+w.aW) v:=by
    refine ⟨λu x X h2 e c=>?_,λc=>?_⟩
    ·obtain ⟨z,z1,z2,Y,Z⟩:=BD T X;have hc:bE q i u=bE q i z:=BP (by omega) Y λy L M N=>by
      have:=Z y ((A.mem y).2 ⟨L,M⟩) N.2;omega
     rw[e,hc];refine o.le _ ?_ c
     grind
    ·obtain ⟨x,a,e⟩:=o.cL c
     grind
   grind
 ·obtain ⟨y,F⟩:=x;obtain ⟨rfl,d,m⟩:=a;dsimp only at d m ⊢;obtain ⟨ep,hm⟩:=jH b;have hP:pz F (cA q w):=Jj hq b d λn hn=>by
   have kp:=(hq.spec.parts.ok _ hm).2.mem n hn;have e:kz F n=F[n.toNat]:=(yt kp.1 (by omega)).2.2;rw[e];exact IS (m n.toNat (by omega)) λu x hu a=>by rw[a];exact P _ u (by omega) (by omega) (by omega)
  rw[if_neg (by simp),ep,aD,Xp hP b.need b.tX b.many,aD,aZ];exact ⟨F,⟨d,m⟩,rfl⟩
structure PR (nodes:List (List bW)) (q:iB) (L:Nat):Prop where
 len:nodes.length=q.S.am.length
 cL:Df nodes q.aR L
 val:∀(k:Nat)(h:k<nodes.length)(t:Int),q.aR<=t->yE nodes[k] t (bE q k t)
theorem PR.right{i:List (List bW)}{q:iB}{L:Nat}(h:PR i q L):Yj q:=λk t s hk o=>by
 have j:k.toNat<i.length:=by grind [PR.len]
 have:=(h.val k.toNat j t o).ok (h.cL.each _ j).1
 grind
theorem PR.iff{i:List (List bW)}{q:iB}{L:Nat}(h:PR i q L){k:Nat}(hk:k<i.length){t:Int}(j:q.aR<=t){v:aE}:yE i[k] t v↔v=bE q k t:=
 ⟨λo=>o.Bl (h.cL.each k hk).1 (h.val k hk t j),λe=>by rw[e];exact h.val k hk t j⟩
theorem Kg{b:List (List bW)}{q:iB}{L:Nat}(S:L<=900)(hq:ru q)(j:PR b q L){w:AM}(e:jx q w){t:Int}(T:q.aR<=t)(U:t<=1099511627776) :
  bM (zaL 5000 b w.Part w.aL w.az w.aW t q.aR q.S.aH) λr=>∃F,F.length=q.S.am.length/\(∀n∈cA q w,PE (λu v=>v=bE q n u) t (t+w.aW) (kz F n))/\r=CL F (cA q w) w.aL w.az:=by
 have nn:=hq.spec.nodes.hi;have N:=hq.now;have W:=e.wall;obtain ⟨O,G⟩:=jH e;have z:=hq.spec.parts.ok _ G;have pl:=(jT hq.spec).part _ G;have P:=j.right;unfold zaL;rw[if_neg (by have:=e.part;simp_all),wr (x:=t+w.aW) (by omega) (by omega),XS _ (by grind [PR.len]),aD,O,aD];have K:=j.len;refine jb (cA q w).length (λi x=>x.1=(i:Int)/\x.2.length=b.length/\∀n∈(cA q w).take i,PE (λu v=>v=bE q n u) t (t+w.aW) (kz x.2 n)) (λi x f p m A=>?_) (λx f m=>?_) ⟨rfl,by simp,λn h=>by simp at h⟩ (by omega)
 ·obtain ⟨y,F⟩:=x;obtain ⟨rfl,s,o⟩:=m;dsimp only at s o ⊢;have hn:=z.2.mem _ (bC p);obtain ⟨k,Q⟩:∃k:Nat,(cA q w)[i]=(k:Int):=⟨((cA q w)[i]).toNat,by omega⟩;have hk:k<b.length:=by omega
  obtain ⟨M,lk⟩:=j.cL.each k hk;have f0:=j.cL.first k hk M.ne;rw[if_pos (cK p),bV p,aD,Q,bV hk,aD];refine (Ma (by omega) M (a:=t) (by omega) (show t<t+w.aW by omega)).bind λr E=>?_;rw[bV (show k<F.length by omega),aD,bS (show i<1000000 by omega),xAc];refine A _ ⟨rfl,by simp[s],λn d=>?_⟩;have low:PE (λu v=>v=bE q k u) t (t+w.aW) r:=E.iff λu v R=>j.iff hk (by omega);dsimp only;by_cases g:n=(k:Int)
  ·grind [zb]
  ·have:kz (F.set k r) n=kz F n∨n<0:=by
    grind [kz]
   rw[GN p,nj,AQ] at d;rcases d with d | d
   ·have nb:=z.2.mem n (Qo d)
    grind
   omega
 ·obtain ⟨y,F⟩:=x;obtain ⟨rfl,s,o⟩:=m;dsimp only at s o ⊢;rw[xA] at o;have hP:pz F (cA q w):=Jj hq e (by omega) λn hn=>by
   have nb:=z.2.mem n hn;exact IS (o n hn) λu x R m=>by rw[m];exact P n u (by omega) (by omega) (by omega)
  rw[if_neg (by simp),aD,XV hP e.need e.tX e.many,aD,aZ]
  grind
theorem CQ{a:List (List bW)}{q:iB}{L:Nat}(s:L<=900)(hq:ru q)(g:PR a q L){w:AM}(d:jx q w){t:Int}(h:q.aR<=t)(i:t<=1099511627776) :
  ∃F,HO q t (t+w.aW) F/\pz F (cA q w)/\zaL 5000 a w.Part w.aL w.az w.aW t q.aR q.S.aH=some (CL F (cA q w) w.aL w.az)/\Vw 5000 q w t=some (CL F (cA q w) w.aL w.az):=by
 have j:=g.right;have v:=hq.now;obtain ⟨r,e,F,f,rfl⟩:=pf_when hq j d h i;obtain ⟨K,k,G,M,b,rfl⟩:=Kg s hq g d h i;obtain ⟨N,y⟩:=jH d;have m:=hq.spec.parts.ok _ y;have o:∀n∈cA q w,kz G n=kz F n:=λn hn=>by have nb:=m.2.mem n hn;obtain ⟨z,_,A⟩:=yt (F:=F) nb.1 (by grind [HO.len]);have p:=f.low n.toNat z;rw[yBY nb.1] at p;rw[A];exact (b n hn).Bl p
 rw[Kr o] at k;refine ⟨F,f,Jj hq d f.len λn hn=>?_,k,e⟩;have nb:=m.2.mem n hn;rw[<-o n hn];exact IS (b n hn) λu x O E=>by rw[E];exact j n u (by omega) (by omega) (by omega)
end Go.Plain
end
