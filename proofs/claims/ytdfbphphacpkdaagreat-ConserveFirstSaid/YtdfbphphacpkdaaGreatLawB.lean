/- TyL4, TyL5, TyP8, TyP9, TyPA, TyL6, TyPB, TyPC, TyPD, TyS1, TyL7 -/
import Derived.Test.YtdfbphphacpkdaaGreatLawA
set_option linter.all false
open Go.IntKind (i64 u64)
section
namespace Go.Plain
open Go.Abs
theorem YA{α:Type}(z:α){n:Nat}(h:n<=1000000):EY z (n:Int) (n:Int)=some (List.replicate n z):=by
 unfold EY
 grind
theorem SV(v:aC)(need:aC):fj v (mulR 0 need)=v:=dU λc=>by rw[B_,AP];omega
theorem Gw(v a b:aC):fj (fj v a) b=fj v (Bh a b):=dU λc=>by simp only[B_,vT];omega
theorem Ps.none{l:List bP}(hs:dF l)(a b:Int)(need:aC):Ps l a b (mulR 0 need) l:=
 ⟨hs,by omega,λ_ _=>rfl,λt v h=>by rw[SV,ite_self];exact h⟩
structure CJ (nodes:List (List bP)) (now:Int) (L:Nat):Prop where
 each:∀k (h:k<nodes.length),dF nodes[k]/\nodes[k].length<=L
 first:∀k (h:k<nodes.length) (h':0<nodes[k].length),nodes[k][0].At=now
theorem zz{l:List cW}{n:Int}(h:∀y∈l,y.Node≠n):dM l n=0:=by
 induction l with
 |nil=>simp[dM]
 |cons y l ih=>
  have a:=ih λz hz=>h z (oD _ hz);simp only[dM,tn,List.sum_cons] at a ⊢
  simp_all
theorem Ax{l:List cW}{n:Int}(h:a_ l n){i j:Nat}(a:i<j)(b:j<l.length):l[i].Node<l[j].Node:=by
 induction j with
 |zero=>omega
 |succ j ih=>
  have s:=(h (j+1) b).up
  grind [rp]
theorem JF{l:List cW}{n:Int}(h:a_ l n){i:Nat}(d:i<l.length):dM l l[i].Node=l[i].aK:=by
 have e:=Rl (l:=l.take (i+1)) (m:=l.drop (i+1)) l[i].Node;have f:dM (l.take i) l[i].Node=0:=zz λy a=>by obtain ⟨j,b,rfl⟩:=NF.1 a;rw[BY] at b;rw[Ss];have:=Ax h (show j<i by omega) d;omega
 have g:dM (l.drop (i+1)) l[i].Node=0:=zz λy a=>by obtain ⟨j,b,rfl⟩:=NF.1 a;rw[yBK] at b;rw[yBT];have:=Ax h (show i<i+1+j by omega) (by omega);omega
 rw[NL,nH d,f,g,if_pos rfl] at e;omega
theorem Qh{l:List cW}{n:Int}(h:a_ l n){i:Nat}(a:i<l.length):dM (l.take i) l[i].Node=0:=zz λy b=>by obtain ⟨j,d,rfl⟩:=NF.1 b;rw[BY] at d;rw[Ss];have:=Ax h (show j<i by omega) a;omega
theorem Bo{d:List (List bP)}{m:Int}{L:Nat}(hL:L<=900)(E:CJ d m L)(hn:d.length<=40){a b:Int}{l:List cW}{need:aC}(w:a_ l d.length)(X:l.length<=300)(O:aL need)
  (h0:m<=a) (n:a<b) (y:b<=281474976710656) (o:∀k (h:k<d.length) t v,a<=t->t<b->ya d[k] t v->xe (mulR (dM l k) need) v) :
  bL (za8 5000 d a b l need) λr=>r.2=0/\r.1.length=d.length/\∀k (h:k<d.length) (P:k<r.1.length),Ps d[k] a b (mulR (dM l k) need) r.1[k]:=by
 unfold za8;rw[YA _ (by omega),aD];have node:∀i (e:i<l.length),∃k:Nat,l[i].Node=(k:Int)/\k<d.length:=λi e=>by obtain ⟨Q,Y,_⟩:=w.mem _ (bE e);exact ⟨l[i].Node.toNat,by omega,by omega⟩
 refine ja l.length (λi x=>∃T:List (List bP),x=((i:Int),T)/\T.length=l.length/\∀j (hj:j<l.length) (R:j<T.length) (k:Nat) (hk:k<d.length),j<i->l[j].Node=(k:Int)->Ps d[k] a b (mulR l[j].aK need) T[j]) (λi x f e g S=>?_) (λx f g=>?_)
  ⟨_,rfl,List.length_replicate ..,λj _ _ _ _ h=>by omega⟩ (by omega)
 ·obtain ⟨T,rfl,R,Z⟩:=g;obtain ⟨k,p,hk⟩:=node i e;have sh:=w.mem _ (bE e);dsimp only;rw[if_pos (cM e),bW e,aD];have G:dM l k=l[i].aK:=by grind [JF]
  have fk:=o k hk;rw[G] at fk;obtain ⟨A,lk⟩:=E.each k hk;have f0:=E.first k hk A.ne;have U:aL (mulR l[i].aK need):=by obtain ⟨v,s⟩:=ya.ex A (t:=a) (by omega);have:=fk a v (OF _) n s;refine vB.2 λc=>?_;have Q:=this c;have Y:=vB.1 (s.ok A) c;have h3:=vB.1 O c;rw[AP] at Q ⊢;have:=yBL (show 0<=l[i].aK by omega) h3.1;omega
  refine (KY O ⟨sh.2.2.1,sh.2.2.2⟩).bind λr u=>?_;have z:=u.1.2 U;rw[if_neg (by simp[z]),u.2 z,p,bW hk,aD];refine (xx (by omega) A U (by omega) n y fk).bind λr2 aa=>?_;rw[bW (show i<T.length by omega),aD,if_neg (by simp_all),bT (show i<1000000 by omega),xAc]
  grind
 ·obtain ⟨T,rfl,R,Z⟩:=g;dsimp only;rw[if_neg (by simp)];refine ja l.length (λi x=>∃M:List (List bP),x=((i:Int),M)/\M.length=d.length/\∀k (h:k<d.length) (P:k<M.length),Ps d[k] a b (mulR (dM (l.take i) k) need) M[k]/\(dM (l.take i) k=0->M[k]=d[k])) (λi x f e g S=>?_) (λx f g=>?_)
   ⟨_,rfl,rfl,λk h _=>⟨by simpa[dM] using Ps.none (E.each k h).1 a b need,λ_=>rfl⟩⟩ (by omega)
  ·obtain ⟨M,rfl,W,hB⟩:=g;obtain ⟨k,p,hk⟩:=node i e;dsimp only;rw[if_pos (cM e),bW e,aD,bW (show i<T.length by omega),aD,p,bW (show k<M.length by omega),aD,bT (show i<1000000 by omega),xAc];refine S _ ⟨_,rfl,by simp[W],λK h P=>?_⟩;have y:=Qh w e;rw[p] at y;by_cases q:k=K
   ·subst q;have N:(M.set k T[i])[k]=T[i]:=yB1 _;rw[nH e,y,if_pos p,Int.zero_add,N];have sh:=w.mem _ (bE e)
    grind
   ·have N:(M.set k T[i])[K]=M[K]'(by omega):=yB9 q _;rw[nH e,if_neg (by omega),Int.add_zero,N]
    simp_all
  ·obtain ⟨M,rfl,W,hB⟩:=g;dsimp only;rw[if_neg (by simp),aY]
   simp_all
end Go.Plain
end
section
namespace Go.Plain
open Go.Abs
def kk(F:List aC)(n:Int):aC:=(F[n.toNat]?).getD bN
def cN(F:List aC)(l:List Int)(need:aC):Int:=(l.map λn=>dG (kk F n) need).sum
def Gn(left c:Int):Int:=if left<c then left else c
def ZJ(F:List aC)(need:aC)(x:Int×List cW)(n:Int):Int×List cW:=
 if Gn x.1 (dG (kk F n) need)=0 then x else (x.1-Gn x.1 (dG (kk F n) need),x.2++[{ Node:=n,aK:=Gn x.1 (dG (kk F n) need) }])
def sm(F:List aC)(need:aC)(l:List Int)(many:Int):Int×List cW:=l.foldl (ZJ F need) (many,[])
def BU(F:List aC)(l:List Int)(many:Int)(need:aC):List cW×Bool:=if many<1∨cN F l need<many then ([],false) else ((sm F need l many).2,true)
theorem yr{F:List aC}{n:Int}(b:0<=n)(h:n<F.length):∃a:n.toNat<F.length,aB F n=some (kk F n)/\kk F n=F[n.toNat]'a:=by grind [FJ,kk]
structure pj (F:List aC) (l:List Int):Prop where
 yL:l.length<=300
 node:∀n∈l,0<=n/\n<F.length
 XT:∀n∈l,aL (kk F n)
section
variable{F:List aC}{l:List Int}{need:aC}(hP:pj F l)(hn:aL need)(hz:need≠bN)
include hP hn
theorem oN{n:Int}(h:n∈l):0<=dG (kk F n) need/\dG (kk F n) need<=64:=Pt (hP.XT n h) hn
theorem Ww:0<=cN F l need/\cN F l need<=64 * l.length:=by
 have:∀(m:List Int),(∀x∈m,x∈l)->0<=cN F m need/\cN F m need<=64 * m.length:=by
  intro m;induction m with
  |nil=>grind [cN]
  |cons x m ih=>
   intro h;have b:=ih λy a=>h y (oD _ a);have:=oN hP hn (h x (rX ..))
   grind [cN]
 simp_all
include hz
theorem Vg{n:Int}(h:n∈l):qi 5000 F n need=some (dG (kk F n) need):=by have a:=hP.node n h;obtain ⟨_,e,_⟩:=yr a.1 a.2;unfold qi;rw[if_neg (by simp_all),e,aD,count (hP.XT n h) hn hz,aD]
theorem yi{i:Nat}(a:i<l.length):cN F (l.take (i+1)) need=cN F (l.take i) need+dG (kk F l[i]) need:=by grind [List.take_succ_eq_append_getElem,cN]
theorem yA{i:Nat}:0<=cN F (l.take i) need/\cN F (l.take i) need<=64 * 300:=by
 have h:=Ww (F:=F) (l:=l.take i) (need:=need) ⟨by grind [pj.yL],λn h=>hP.node n (NP h),λn h=>hP.XT n (NP h)⟩ hn
 grind [pj.yL]
theorem Xb:ru 5000 F l need=some (cN F l need):=by
 have e:=hP.yL;unfold ru;refine bL.eq (ja l.length (λi x=>x=(cN F (l.take i) need,(i:Int))) (λi x f a d g=>?_) (λx f d=>?_) (by simp[cN]) (by omega))
 ·subst d;have c:=oN hP hn (bE a);have b:=yA hP hn hz (i:=i);dsimp only;rw[if_pos (cM a),bW a,aD,Vg hP hn hz (bE a),aD,bT (show i<1000000 by omega),wr (by omega) (by omega)]
  grind [yi]
 ·subst d;dsimp only;rw[if_neg (by simp),aY,yh]
theorem pf_room:zej 5000 F l need=some (cN F l need):=by
 have h:=hP.yL;unfold zej;refine bL.eq (ja l.length (λi x=>x=(cN F (l.take i) need,(i:Int))) (λi x f a d j=>?_) (λx f d=>?_) (by simp[cN]) (by omega))
 ·subst d;have c:=oN hP hn (bE a);have b:=yA hP hn hz (i:=i);have g:=hP.node _ (bE a);obtain ⟨_,e,_⟩:=yr g.1 g.2;simp only[fQ];rw[if_pos (cM a)];simp only[bW a,Option.bind_some];rw[if_pos (by simp_all),if_pos (by simp_all),e,aD,Ao (hP.XT _ (bE a)) hn hz,aD,bT (show i<1000000 by omega),wr (by omega) (by omega)]
  grind [yi]
 ·subst d;dsimp only;rw[if_neg (by simp),aY,yh]
theorem ut{i:Nat}(a:i<l.length)(many:Int):sm F need (l.take (i+1)) many=ZJ F need (sm F need (l.take i) many) l[i]:=by grind [sm,List.take_succ_eq_append_getElem]
theorem Rp{many:Int}(hm:1<=many/\many<=100000)(i:Nat):(0<=(sm F need (l.take i) many).1/\(sm F need (l.take i) many).1<=many)/\(sm F need (l.take i) many).2.length<=i:=by
 induction i with
 |zero=>grind [sm]
 |succ i ih=>
  by_cases a:i<l.length
  ·have c:=oN hP hn (bE a);rw[ut hP hn hz a];unfold ZJ;by_cases q:Gn (sm F need (l.take i) many).1 (dG (kk F l[i]) need)=0
   ·grind
   ·rw[if_neg q]
    grind [Gn]
  grind [List.take_of_length_le]
theorem Ms{many:Int}(i:Nat)(h:(sm F need (l.take i) many).1=0):(sm F need l many).2=(sm F need (l.take i) many).2:=by
 have:∀n,sm F need (l.take (i+n)) many=sm F need (l.take i) many:=by
  intro n;induction n with
  |zero=>rfl
  |succ n ih=>
   by_cases a:i+n<l.length
   ·have c:=oN hP hn (bE a);rw[<-Nat.add_assoc,ut hP hn hz a,ih];unfold ZJ Gn
    grind
   grind [List.take_of_length_le]
 have:=this l.length
 grind [List.take_of_length_le]
theorem XD{many:Int}(hm:many<=100000):zd8 5000 F l many need=some (BU F l many need):=by
 have j:=hP.yL;unfold zd8 BU;simp only[fQ];by_cases k:many<1
 ·simp_all
 rw[if_neg (by simp_all),Xb hP hn hz,aD];by_cases m:cN F l need<many
 ·simp_all
 rw[if_neg (by simp_all),if_neg (by omega)];refine bL.eq (ja l.length (λi x=>x=((sm F need (l.take i) many).1,(i:Int),(sm F need (l.take i) many).2)) (λi x f a b d=>?_) (λx f b=>?_) (by simp[sm]) (by omega))
 ·subst b;have c:=oN hP hn (bE a);have g:=Rp hP hn hz (many:=many) ⟨by omega,hm⟩ i;have st:=ut hP hn hz a many;dsimp only;rw[if_pos (cM a),bW a,aD,Vg hP hn hz (bE a),aD,bo];refine ⟨λh=>?_,λh=>?_⟩
  ·grind [aY,Ms]
  ·rw[bT (show i<1000000 by omega)];unfold ZJ at st;rw[bo];refine ⟨λh=>?_,λh=>?_⟩
   ·rw[if_pos (show Gn _ _=0 by grind [Gn])] at st
    simp_all
   ·rw[if_neg (show ¬Gn _ _=0 by grind [Gn])] at st;rw[Ap (by grind),aD];have e:i64.wrap ((sm F need (l.take i) many).1-(if (sm F need (l.take i) many).1<dG (kk F l[i]) need then (sm F need (l.take i) many).1 else dG (kk F l[i]) need))=(sm F need (l.take i) many).1-Gn (sm F need (l.take i) many).1 (dG (kk F l[i]) need):=by
     grind [Gn,wr]
    rw[e];exact d _ (by rw[st];rfl)
 ·subst b;dsimp only;rw[if_neg (by simp),aY,yh]
theorem Wv{many:Int}(hm:many<=100000):zbZ 5000 F l many need=some (BU F l many need):=by
 have m:=hP.yL;unfold zbZ BU;simp only[fQ];by_cases n:many<1
 ·simp_all
 rw[if_neg (by simp_all),pf_room hP hn hz,aD];by_cases o:cN F l need<many
 ·simp_all
 rw[if_neg (by simp_all),if_neg (by omega)];refine bL.eq (ja l.length (λi x=>x=((sm F need (l.take i) many).1,(i:Int),(sm F need (l.take i) many).2)) (λi x f a d p=>?_) (λx f d=>?_) (by simp[sm]) (by omega))
 ·subst d;have c:=oN hP hn (bE a);have j:=Rp hP hn hz (many:=many) ⟨by omega,hm⟩ i;have st:=ut hP hn hz a many;have g:=hP.node _ (bE a);obtain ⟨_,e,_⟩:=yr g.1 g.2;dsimp only;rw[bo];refine ⟨λh=>?_,λh=>?_⟩
  ·simp only[bG,br] at h;rw[bW a,aD,if_neg (by simp_all),aD,if_neg (by simp_all),aD,e,aD,Ao (hP.XT _ (bE a)) hn hz,aD,bT (show i<1000000 by omega)];unfold ZJ Gn at st;rw[bo];refine ⟨λb=>?_,λb=>?_⟩
   ·simp only[br] at b;rw[if_pos (show (sm F need (l.take i) many).1<dG (kk F l[i]) need from b),if_neg (by omega)] at st;rw[if_pos (by simp_all),aD,Ap (by grind),aD,wr (x:=_-_) (by omega) (by omega)]
    simp_all
   ·simp only[br] at b;rw[if_neg (show ¬(sm F need (l.take i) many).1<dG (kk F l[i]) need from b)] at st;rw[wr (x:=_-_) (by omega) (by omega)];by_cases k:dG (kk F l[i]) need=0
    ·simp_all
    ·rw[if_neg k] at st;rw[if_pos (by grind),aD,Ap (by grind),aD]
     simp_all
  ·rw[aY,Ms hP hn hz i]
   grind
 ·subst d;dsimp only;rw[if_neg (by simp),aY,yh]
end
theorem IM{F G:List aC}{l:List Int}(h:∀n∈l,kk F n=kk G n)(many:Int)(need:aC):BU F l many need=BU G l many need:=by
 have a:cN F l need=cN G l need:=by grind [cN,List.map_congr_left]
 have b:∀(m:List Int)(x:Int×List cW),(∀n∈m,n∈l)->m.foldl (ZJ F need) x=m.foldl (ZJ G need) x:=by
  intro m;induction m with
  |nil=>simp_all
  |cons n m ih=>grind [ZJ]
 grind [BU,sm]
theorem TI{a b need:aC}(k:aL a)(m:aL b)(hn:aL need)(h:xe a b):dG a need<=dG b need:=by
 have f:=vX k hn;have n:=vX m hn;rcases yCk (dG b need) (dG a need) with q | q
 ·obtain ⟨p,g,d⟩:=n.max (by have:=f.hi;omega);have e:∀(x y:Int×Int),x.2=y.2->x.1<=y.1->0<=y.2->x∈Fa a need->y.1<(dG b need+1) * y.2->False:=λx y s t o r d=>by
   have:=f.fit x r;have u:(dG b need+1) * y.2<=dG a need * y.2:=yAQ (by omega) o
   grind
  have f0:=h 0;have f1:=h 1;have i:=h 2;have j:=h 3;simp only[cmp] at f0 f1 i j;have:=hn.Fy;have:=hn.mem;have:=hn.Ir;have:=hn.Ka;simp only[Fa,gn,KE,KR] at g;rcases g with rfl | rfl | rfl | rfl
  ·exact (e (a.bK,need.bK) (b.bK,need.bK) rfl f0 (by omega) (by simp[Fa]) d).elim
  ·exact (e (a.Mem,need.Mem) (b.Mem,need.Mem) rfl f1 (by omega) (by simp[Fa]) d).elim
  ·exact (e (a.bM,need.bM) (b.bM,need.bM) rfl i (by omega) (by simp[Fa]) d).elim
  ·exact (e (a.bO,need.bO) (b.bO,need.bO) rfl j (by omega) (by simp[Fa]) d).elim
 omega
theorem OQ{F G:List aC}{l:List Int}{need:aC}(d:pj F l)(e:pj G l)(hn:aL need)(h:∀n∈l,xe (kk F n) (kk G n)):cN F l need<=cN G l need:=by
 have:∀(m:List Int),(∀x∈m,x∈l)->cN F m need<=cN G m need:=by
  intro m;induction m with
  |nil=>grind [cN]
  |cons x m ih=>
   intro b;have g:=ih λy f=>b y (oD _ f);have a:=b x (rX ..);have:=TI (d.XT x a) (e.XT x a) hn (h x a)
   grind [cN]
 simp_all
theorem AD{F:List aC}{l:List Int}{many:Int}{need:aC}:(BU F l many need).2=true↔1<=many/\many<=cN F l need:=by grind [BU]
end Go.Plain
end
section
namespace Go.Plain
open Go.Abs
def sP(j:aM):Bool:=(j.State == 3) || (j.State == 4)
theorem hasJ_lt{j:aM}(h:sP j=true):j.State<5:=by simp only[sP,gp,my] at h;omega
structure eW (s:bn) (st:cw) (j:aM) (a:ca):Prop where
 Eo:a.bj=j.Id
 need:a.ay=j.ay
 qB:kY s j a.ae
 now:st.aX<j.Start+j.aW
def kP(F:List aC)(a:ca):List aC:=F.mapIdx (pV a)
theorem Zz{F:List aC}{a:ca}:(kP F a).length=F.length:=by simp[kP]
theorem mI{F:List aC}{a:ca}{i:Nat}(h:i<(kP F a).length):(kP F a)[i]=pV a i (F[i]'(by grind [Zz])):=by simp[kP]
theorem rN.eq{F G:List aC}{a:ca}(h:rN F a G):G=kP F a:=
 yBW (by rw[h.len,Zz]) λi j o=>by rw[h.cT i j,mI o]
theorem uC{F:List aC}{a:ca}(h:xD F a):∀r∈kP F a,aL r:=λr b=>by obtain ⟨i,d,rfl⟩:=km b;rw[mI d];exact h i _
def eO(s:bn)(st:cw):List aM->List ca->List aC->Prop
 |[],A,_=>A=[]
 |j::H,A,F=>∃a b,A=a::b/\eW s st j a/\xD F a/\eO s st H b (kP F a)
def ig(s:bn)(st:cw):Prop:=eO s st (st.aj.filter sP) st.ah s.am
theorem eO.mem{s:bn}{st:cw}{H:List aM}{A:List ca}{F:List aC}(h:eO s st H A F):∀a∈A,∃j∈H,eW s st j a:=by
 induction H generalizing A F with
 |nil=>intro a i;rw[show A=[] from h] at i;cases i
 |cons j H ih=>
  obtain ⟨b,o,rfl,u,x,z⟩:=h
  grind
theorem ig.mem{s:bn}{st:cw}(h:ig s st):∀a∈st.ah,∃j∈st.aj,eW s st j a:=λa i=>by
 obtain ⟨j,o,u⟩:=eO.mem h a i
 grind
theorem Tt{α:Type}{M:List (Int×α)}{k:Int}{a:α}{b:Int}:cE (jP M k a) b=if k=b then some a else cE M b:=by
 induction M with
 |nil=>simp[jP,cE]
 |cons p M ih=>
  obtain ⟨q,v⟩:=p;simp only[jP];split
  ·grind [Go.Abs.cE]
  ·rename_i e;simp only[cE,ih]
   grind
theorem AO{s:bn}(hs:mY s)(k:bm s):PG 5000 s=some true:=by obtain ⟨r,e,h⟩:=qS s hs;rw[e,h.2 k]
theorem HJ{l:List aC}(h:l.length<=1000000):zaY 5000 l=some l:=by simp only[zaY,Ft h]
theorem Dn{s:bn}(hs:mY s)(k:bm s):zcC 5000 s=some (.inr ([],s.am)):=by have:=hs.nodes;simp only[zcC,AO hs k,Option.bind_some,NE,bX,cn,HJ (show s.am.length<=1000000 by omega)]
theorem RK{l:List cW}(h:1<=lT l):l≠[]:=λe=>by grind [lT]
structure AInv (s:bn) (st:cw) (i:Nat) (x:(List ca)×Int×(List aC)×List (Int×ca)):Prop where
 ix:x.2.1=(i:Int)
 iff:ig s st↔eO s st ((st.aj.drop i).filter sP) x.1 x.2.2.1
 len:x.2.2.1.length=s.am.length
 XT:∀r∈x.2.2.1,aL r
 keys:∀q,cE x.2.2.2 q≠none->∃m,∃h:m<st.aj.length,m<i/\st.aj[m].Id=q
 sub:∀a∈x.1,a∈st.ah
 yL:x.1.length<=300
theorem DC{s:bn}(k:bm s){st:cw}(z:lF s st)(J:dt s st):fY (zed 5000 s st) (ig s st):=by
 have hl:=z.bp;have hn:=z.spec.nodes;unfold zed;rw[Dn z.spec k,aD];dsimp only;refine ja st.aj.length (AInv s st) (λi x f G R hr=>?_) (λx f R=>?_) ⟨rfl,by simp[ig],rfl,k.nodes.ok,λq h=>absurd rfl h,λa U=>U,z.cf⟩ (by omega)
 ·obtain ⟨o,x1,F,M⟩:=x;obtain ⟨p,d,t,n,g,j,u⟩:=R;dsimp only at p d t n g j u;subst p;rw[yBF G] at d;have ji:=J.each _ (bE G);have O:=ji.ok;have up:∀q,(∃m,∃h:m<st.aj.length,m<i/\st.aj[m].Id=q)->∃m,∃h:m<st.aj.length,m<i+1/\st.aj[m].Id=q:=λq ⟨m,h,W,A⟩=>⟨m,h,by omega,A⟩;simp only[fQ,eo,cM G,if_true,bW G,Option.bind_some,bT (show i<1000000 by omega)];rw[bo];refine ⟨λh=>hr _ ⟨rfl,?_,t,n,λq hq=>up q (g q hq),j,u⟩,λh=>?_⟩
  ·have e:sP st.aj[i]=false:=by grind [sP]
   grind
  ·have e:sP st.aj[i]=true:=by simpa only[sP,iF,oh] using h
   rw[List.filter_cons_of_pos e] at d;have ad:=O.start;have af:=O.wall;rw[wr (x:=st.aj[i].Start+st.aj[i].aW) (by omega) (by omega),bo];refine ⟨λW=>cS λq=>?_,λW=>?_⟩
   ·obtain ⟨a,E,rfl,K,-⟩:=d.1 q;have:=K.now
    grind
   ·simp only[gp,br,my,not_or] at W;cases o with
    |nil=>grind
    |cons a E=>
     have U:=j a (rX ..);have L:=z.shares a U;have X:aB (a::E) 0=some a:=by unfold aB;simp_all
     have sl:slice? (a::E) 1 ((a::E).length:Int)=some E:=by unfold slice?;rw[if_pos ⟨by omega,by omega,by omega⟩];simp
     simp only[X,sl,Option.bind_some];rw[bo];refine ⟨λA=>?_,λA=>?_⟩
     ·refine cS λq=>?_;obtain ⟨Y,y,Z,K,-⟩:=d.1 q
      grind [eW.Eo,gC,eW.need]
     ·simp only[gp,IX,ne_eq,not_or,TX,iF,oh] at A;have eN:a.ay=st.aj[i].ay:=gC.1 A.2;refine (KG z.spec k st.aj[i] a.ae (lA L (by decide))).bind λr aa=>?_;rw[bo];refine ⟨λh3=>?_,λh3=>?_⟩
      ·refine cS λq=>?_;obtain ⟨Y,y,Z,K,-⟩:=d.1 q
       grind [eW.qB]
      ·simp only[iF,oh] at h3;have S:=aa.1 h3;have P:eW s st st.aj[i] a:=⟨A.1,eN,S,by omega⟩;have T:xD F a->uy M F a:=λhf=>⟨by have:=O.id;omega,RK (by have:=O.many;have:=S.UP;omega),by grind [kY.shares],by grind [f_.need],by
        cases hm:cE M a.bj with
        |none=>rfl
        |some v=>obtain ⟨m,ak,ab,an⟩:=g a.bj (by simp_all);have:=J.bV.lt ab G;omega,hf⟩
       refine (JE (M:=M) (a:=a) (F:=F) (by omega) (lA L (by decide)) n).bind λr2 N=>?_;rw[bo];refine ⟨λQ=>cS λq=>?_,λQ=>?_⟩
       ·obtain ⟨Y,y,Z,K,hf,-⟩:=d.1 q
        simp_all
       ·simp only[IX,ne_eq,TX] at Q;have tk:=N.1.1 Q;obtain ⟨eM,bh⟩:=N.2 Q;have eF:=bh.eq;refine hr _ ⟨rfl,?_,?_,?_,λq hq=>?_,λb hb=>j b (oD _ hb),?_⟩
        ·rw[d];dsimp only;rw[eF];constructor
         ·rintro ⟨Y,y,Z,K,hf,w⟩
          simp_all
         ·intro w;exact ⟨a,E,rfl,P,tk.fits,w⟩
        ·grind [Zz]
        ·grind [uC,uy.fits]
        ·grind [Tt]
        grind
 ·obtain ⟨o,x1,F,M⟩:=x;obtain ⟨p,d,t,n,g,j,u⟩:=R;dsimp only at p d;subst p;rw[List.drop_length] at d;simp only[eU,bX,cn,aY,my];rw[d];constructor
  ·intro h;exact VI (by omega)
  ·intro h;rw[show o=[] from h];rfl
end Go.Plain
end
section
namespace Go.Plain
open Go.Abs
structure OneB (n:Int) (b:lL):Prop where
 id:1<=b.Id/\b.Id<=281474976710656
 node:0<=b.Node/\b.Node<n
 lo:0<=b.bJ
 span:b.bJ<b.To
 hi:b.To<=1099511627776
structure uQ (b:lL) (node p q:Int):Prop where
 node:b.Node=node
 span:b.bJ<b.To
 pq:p<q
 l:b.bJ<q
 r:p<b.To
structure Pc (l:List lL) (n:Int) (i:Nat) (b:lL):Prop where
 one:OneB n b
 up:∀x (h:x<l.length),x<i->l[x].Id<b.Id/\¬uQ l[x] b.Node b.bJ b.To
structure zO (l:List lL) (n:Int):Prop where
 len:l.length<=16
 each:∀i (h:i<l.length),Pc l n i l[i]
theorem De(l:List lL)(node p q:Int)(k:l.length<=300):fY (fO 5000 l node p q) (∃b∈l,uQ b node p q):=by
 simp only[fO];refine xq l (λ_ b=>¬uQ b node p q) (λi f a _ d=>?_) (λf h=>?_) (by omega)
 ·simp only[cM a,if_true,bW a,Option.bind_some,bT (show i<1000000 by omega),bo];have e:decide ((if p > l[i].bJ then p else l[i].bJ)<(if q<l[i].To then q else l[i].To))=true↔l[i].bJ<l[i].To/\p<q/\l[i].bJ<q/\p<l[i].To:=by
   grind
  rw[bG,e,my];exact ⟨λh=>se ⟨_,bE a,⟨h.1,h.2.1,h.2.2.1,h.2.2.2.1,h.2.2.2.2⟩⟩,λh=>d λm=>h ⟨m.node,m.span,m.pq,m.l,m.r⟩⟩
 ·simp only[eU,bX,cn];exact cS λ⟨b,g,j⟩=>Cy (A:=λb=>¬uQ b node p q) h b g j
theorem Ho(l:List lL)(node p q:Int)(j:l.length<=300):fY (zb1 5000 l node p q) (∃b∈l,uQ b node p q):=by
 simp only[zb1];refine xq l (λ_ b=>¬uQ b node p q) (λi f a _ d=>?_) (λf h=>?_) (by omega)
 ·simp only[cM a,if_true,bW a,Option.bind_some,bT (show i<1000000 by omega),bo];simp only[bG,br,my];exact ⟨λh=>se ⟨_,bE a,⟨h.1.1.1.1,h.1.1.1.2,h.1.1.2,h.1.2,h.2⟩⟩,λh=>d λm=>h ⟨⟨⟨⟨m.node,m.span⟩,m.pq⟩,m.l⟩,m.r⟩⟩
 ·simp only[eU,bX,cn];exact cS λ⟨b,e,g⟩=>Cy (A:=λb=>¬uQ b node p q) h b e g
theorem Yz(b:lL)(n:Int):fY (qZ 5000 b n) (OneB n b):=by simp only[qZ,fY,aY,bG,br];exact ⟨λh=>⟨by omega,by omega,by omega,by omega,by omega⟩,λh=>by have:=h.id;have:=h.node;have:=h.lo;have:=h.span;have:=h.hi;omega⟩
theorem ref_one(b:lL)(n:Int):fY (zeP 5000 b n) (OneB n b):=by simp only[zeP,zbf,Option.bind_some,fY,bo,aY,bG,br];refine ⟨λa=>⟨λh=>⟨by omega,by omega,by omega,by omega,by omega⟩,λh=>by have:=h.id;have:=h.node;have:=h.lo;have:=h.span;have:=h.hi;omega⟩,λa=>⟨λh=>by simp at h,λh=>by have:=h.id;omega⟩⟩
theorem xW{α:Type}{l:List α}{i:Nat}(h:i<=l.length):slice? l 0 (i:Int)=some (l.take i):=by
 unfold slice?
 simp_all
theorem Vr{l:List lL}{i:Nat}{P:lL->Prop}:(∃b∈l.take i,P b)↔∃x,∃h:x<l.length,x<i/\P l[x]:=by
 constructor
 ·grind [List.getElem_of_mem]
 ·rintro ⟨x,e,a,hp⟩;have d:x<(l.take i).length:=by grind
  refine ⟨(l.take i)[x],bE d,?_⟩
  simp_all
theorem DB(l:List lL)(n:Int)(y:l.length<=300):fY (ny 5000 l n) (zO l n):=by
 unfold ny;rw[fY,bo];refine ⟨λh=>cS λq=>?_,λh=>?_⟩
 ·have:=q.len
  grind
 ·simp only[br] at h;refine xq l (λi b=>Pc l n i b) (λi f d o w=>?_) (λf o=>?_) (by omega)
  ·have hd:decide ((i:Int) > 0)=decide (0<i):=by simp
   simp only[fQ,cM d,if_true,bW d,Option.bind_some,bT (show i<1000000 by omega),hd,xW (yCa d)];refine (Yz l[i] n).bind λr k=>?_;rw[bo];refine ⟨λp=>cS λq=>?_,λp=>?_⟩
   ·have:=k.2 (q.each i d).one
    simp_all
   ·simp only[iF,oh] at p;have O:=k.1 p;have fin:(∀x (h:x<l.length),x<i->l[x].Id<l[i].Id)->bL ((fO 5000 (l.take i) l[i].Node l[i].bJ l[i].To).bind λr=>if r=true then some false else f ((i+1:Nat):Int)) (λb=>b=true↔zO l n):=λs=>by
     refine (De (l.take i) _ _ _ (by rw[BY];omega)).bind λr e=>?_;rw[Vr] at e;rw[bo];refine ⟨λg=>cS λq=>?_,λg=>w ⟨O,λx j a=>⟨s x j a,λm=>g (e.2 ⟨x,j,a,m⟩)⟩⟩⟩;obtain ⟨x,j,a,m⟩:=e.1 g;exact ((q.each i d).up x j a).2 m
    rw[bo];refine ⟨λg=>?_,λg=>?_⟩
    ·simp only[br] at g;obtain ⟨m,rfl⟩:∃m,i=m+1:=⟨i-1,by omega⟩;have t:m<l.length:=by omega
     rw[wp1 (show m+1<1000000 by omega),bW t,aD,bo];refine ⟨λu=>cS λq=>?_,λu=>fin λx j a=>?_⟩
     ·have:=((q.each (m+1) d).up m t (by omega)).1
      grind
     ·simp only[br] at u;rcases Xh (yCd.1 a) with v | v
      ·have:=((o m t (by omega)).up x j v).1;omega
      simp_all
    simp_all
  ·simp only[eU,bX,cn];exact se ⟨by omega,λi d=>o i d⟩
theorem Ta{α:Type}{l:List α}{i:Nat}(h:i<l.length):slice? l (i:Int) ((i+1:Nat):Int)=some [l[i]]:=by
 unfold slice?;rw[if_pos ⟨by omega,by omega,by omega⟩]
 grind [List.take_succ_eq_append_getElem,List.drop_eq_nil_of_le]
theorem WJ(l:List lL)(n:Int)(E:l.length<=300):fY (zdF 5000 l n) (zO l n):=by
 unfold zdF;refine xq l (λi b=>Pc l n i b) (λi f d p v=>?_) (λf p=>?_) (by omega)
 ·simp only[fQ,cM d,if_true,bW d,Option.bind_some,bT (show i<1000000 by omega)];refine (ref_one l[i] n).bind λr e=>?_;rw[bo];refine ⟨λk=>cS λq=>?_,λk=>?_⟩
  ·have:=e.2 (q.each i d).one
   simp_all
  ·simp only[iF,oh] at k;have O:=e.1 k;refine ja i (λx y=>y=(x:Int)/\∀z (h:z<l.length),z<x->l[z].Id<l[i].Id/\¬uQ l[z] l[i].Node l[i].bJ l[i].To) (λx y g m o w=>?_) (λy g o=>?_) ⟨rfl,λz h G=>by omega⟩ (by omega)
   ·obtain ⟨rfl,s⟩:=o;have a:x<l.length:=by omega
    simp only[cM m,if_true,bW a,Option.bind_some,bT (show x<1000000 by omega)];rw[bo];refine ⟨λt=>cS λq=>?_,λt=>?_⟩
    ·have:=((q.each i d).up x a m).1
     grind
    ·simp only[br] at t;rw[Ta a,aD];refine (Ho [l[x]] _ _ _ (by simp)).bind λr j=>?_;simp only[Bl,exists_eq_left] at j;rw[bo];refine ⟨λu=>cS λq=>((q.each i d).up x a m).2 (j.1 u),λu=>w _ ⟨rfl,λz hz A=>?_⟩⟩
     grind
   ·obtain ⟨rfl,s⟩:=o;simp only[eU,bX,cn];exact v ⟨O,s⟩
 ·simp only[eU,bX,cn,aY,br];exact ⟨λh=>⟨by omega,λi d=>p i d⟩,λq=>by have:=q.len;omega⟩
def QG(st:cw)(a:ca):Prop:=∀j∈st.aj,j.Id=a.bj->∀x∈a.ae,∀b∈st.az,b.Node=x.Node->¬b.bJ<j.Start+j.aW
structure zq (s:bn) (st:cw):Prop where
 cJ:zO st.az s.am.length
 live:∀b∈st.az,b.Id<st.dV/\st.aX<b.To
 zC:∀a∈st.ah,QG st a
theorem My{s:bn}{st:cw}(v:lF s st)(J:dt s st)(A:ig s st):fY (gR 5000 s st) (zq s st):=by
 have k:=v.cJ;have hj:=v.bp;have W:=v.cf;unfold gR;refine (DB st.az _ (by omega)).bind λr w=>?_;rw[bo];refine ⟨λz=>cS λq=>?_,λz=>?_⟩
 ·grind [zq.cJ]
 ·simp only[iF,oh] at z;have B:=w.1 z;refine xq st.az (λi b=>b.Id<st.dV/\st.aX<b.To) (λi f n _ E=>?_) (λf S=>?_) (by omega)
  ·simp only[cM n,if_true,bW n,Option.bind_some,bT (show i<1000000 by omega)];rw[bo];simp only[gp,br];exact ⟨λX=>cS λq=>by have:=q.live _ (bE n);omega,λX=>E (by omega)⟩
  ·simp only[eU,bX,cn];refine xq st.ah (λi a=>QG st a) (λi f n _ E=>?_) (λf Y=>?_) (by omega)
   ·simp only[cM n,if_true,bW n,Option.bind_some,bT (show i<1000000 by omega)];have G:=bE n;have Z:=v.shares _ G;obtain ⟨j,d,P⟩:=A.mem _ G;have o:=J.each j d;have aa:=o.ok.id;have ab:=o.ok.start;have jw:=o.ok.wall;refine (QF (by omega) J.bV (id:=st.ah[i].bj) (by have:=P.Eo;omega) J.ids).bind λr2 p=>?_;rw[p.1.2 ⟨j,d,P.Eo.symm⟩,if_neg (by simp)];have h:=p.2 (p.1.2 ⟨j,d,P.Eo.symm⟩);obtain ⟨K,ad⟩:=r2;dsimp only at h ⊢;obtain ⟨L,e⟩:=FJ (l:=st.aj) h.lo (by have:=h.lo;have:=h.hi;omega);have ej:st.aj[K.toNat]=j:=by
     obtain ⟨m,t,rfl⟩:=km d;have:=J.bV.inj L t (by rw[h.is,P.Eo])
     simp_all
    rw[ej] at e;rw[e];simp only[Option.bind_some];rw[wr (x:=j.Start+j.aW) (by omega) (by omega)];have pn:=P.now;refine xq st.ah[i].ae (λ_ x=>∀b∈st.az,b.Node=x.Node->¬b.bJ<j.Start+j.aW) (λm g t _ hg=>?_) (λg hG=>?_) (by omega)
    ·simp only[cM t,if_true,bW t,Option.bind_some,bT (show m<1000000 by omega)];refine (De st.az _ _ _ (by omega)).bind λr3 u=>?_;rw[bo];refine ⟨λM=>cS λq=>?_,λM=>hg λb k hn hf=>M (u.2 ⟨b,k,?_⟩)⟩
     ·obtain ⟨b,k,T⟩:=u.1 M;exact q.zC _ G j d P.Eo.symm _ (bE t) b k T.node T.l
     ·obtain ⟨y,U,rfl⟩:=km k;have:=S y U;exact ⟨hn,(B.each y U).one.span,pn,hf,this.2⟩
    ·simp only[eU,bX,cn];refine E λN O Q x L b k=>?_;have:N=j:=by
      obtain ⟨m,t,rfl⟩:=km d;obtain ⟨m',R,rfl⟩:=km O;have:=J.bV.inj R t (by rw[Q,P.Eo])
      simp_all
     subst this;exact Cy (A:=λx=>∀b∈st.az,b.Node=x.Node->¬b.bJ<N.Start+N.aW) hG x L b k
   ·simp only[eU,bX,cn];exact se ⟨B,Cy S,Cy Y⟩
structure bx (s:bn) (st:cw):Prop where
 spec:bm s
 nums:PJ s st
 bp:dt s st
 waits:∀j∈st.aj,GN s st j
 cf:ig s st
 kH:zq s st
 use:Kg s st
theorem KX{s:bn}{st:cw}(a:lF s st):fY (oL 5000 s st) (bx s st):=by
 unfold oL;have step:∀{o:Option Bool}{P:Prop}{k:Option Bool},fY o P->(bx s st->P)->(P->fY k (bx s st))->fY (o.bind λr=>if r=true then k else some false) (bx s st):=λe b f=>e.bind λr d=>bo.2 ⟨λh=>f (d.1 h),λh=>cS λq=>h (d.2 (b q))⟩
 refine step (qS s a.spec) (λq=>q.spec) λk=>?_;refine step (Ox k st) (λq=>q.nums) λe=>?_;refine step (jobs_ok k a) (λq=>q.bp) λb=>?_;refine step (Qc k a b) (λq=>q.waits) λf=>?_;refine step (DC k a b) (λq=>q.cf) λg=>?_;refine step (My a b g) (λq=>q.kH) λi=>?_;refine (Ye a).bind λr d=>?_;rw[aY,d];exact ⟨λj=>⟨k,e,b,f,g,i,j⟩,λq=>q.use⟩
end Go.Plain
end
section
namespace Go.Plain
open Go.Abs
def cI(A:List ca)(i:Int)(c:Nat):Int:=(A.map λa=>dM a.ae i * cmp c a.ay).sum
theorem ZE{a:ca}{A:List ca}{i:Int}{c:Nat}:cI (a::A) i c=dM a.ae i * cmp c a.ay+cI A i c:=by simp[cI]
theorem mq{A:List ca}{k:Nat}(h:k<A.length)(i:Int)(c:Nat):cI (A.take (k+1)) i c=cI (A.take k) i c+dM A[k].ae i * cmp c A[k].ay:=by grind [List.take_succ_eq_append_getElem,cI]
def Aa(n:Int)(A:List ca):Prop:=∀a∈A,a_ a.ae n/\aL a.ay
theorem Yi{n:Int}{a:ca}(h:a_ a.ae n/\aL a.ay)(i:Int)(c:Nat):0<=dM a.ae i * cmp c a.ay/\dM a.ae i * cmp c a.ay<=67108864:=
 gU (qY h.1 i) (vB.1 h.2 c)
theorem vN{n:Int}{A:List ca}(h:Aa n A)(i:Int)(c:Nat):0<=cI A i c/\cI A i c<=67108864 * A.length:=by
 induction A with
 |nil=>simp[cI]
 |cons a A ih=>
  have e:=ih λb d=>h b (oD _ d);have f:=Yi (h a (rX ..)) i c
  grind [ZE]
def IH(F:List aC)(A:List ca):Prop:=∀i (h:i<F.length) c,cI A i c<=cmp c F[i]
theorem Hg{a:aC}{n:Int}(b:aL a)(hn:0<=n/\n<=64):zcL 5000 a n=some (mulR n a):=by
 obtain ⟨m,rfl⟩:∃m:Nat,n=(m:Int):=⟨n.toNat,by omega⟩;unfold zcL;refine bL.eq (ja m (λk x=>x=((k:Int),(k:Int) * a.bK,(k:Int) * a.Mem,(k:Int) * a.bM,(k:Int) * a.bO)) (λk x f hk d o=>?_) (λx f d=>?_) (by simp) (by omega))
 ·subst d;have g:=gU (n:=((k+1:Nat):Int)) (by omega) b.Fy;have h:=gU (n:=((k+1:Nat):Int)) (by omega) b.mem;have i:=gU (n:=((k+1:Nat):Int)) (by omega) b.Ir;have j:=gU (n:=((k+1:Nat):Int)) (by omega) b.Ka;have e:∀x:Int,((k+1:Nat):Int) * x=(k:Int) * x+x:=λx=>by grind
  rw[e] at g h i j;simp only[cM hk,if_true,Xl,Option.bind_some,bT (show k<1000000 by omega)]
  grind [wr]
 ·subst d;simp only[eU,bX,cn,aY];rfl
theorem Xo(a b:aC):fY (Pu 5000 a b) (∀c,cmp c a<=cmp c b):=by
 simp only[Pu,fY,aY,bG,br];constructor
 ·intro h c
  match c with
  |0=>exact h.1.1.1
  |1=>exact h.1.1.2
  |2=>exact h.1.2
  |_+3=>exact h.2
 ·intro h;exact ⟨⟨⟨h 0,h 1⟩,h 2⟩,h 3⟩
theorem XG{F:List aC}{A:List ca}(R:F.length<=300)(S:A.length<=300)(hs:∀a∈A,a.ae.length<=300){n:Int}(h:Aa n A):bL (zea 5000 F A) λr=>r.2=true↔IH F A:=by
 unfold zea;refine ja F.length (λi x=>(x.1=true↔∀m (h:m<F.length),m<i->∀c,cI A m c<=cmp c F[m])/\x.2.1=(i:Int)/\x.2.2.length=i) (λi x f b o E=>?_) (λx f o=>?_) ⟨⟨λ_ m h T=>by omega,λ_=>rfl⟩,rfl,rfl⟩ (by omega)
 ·obtain ⟨G,K,p⟩:=x;obtain ⟨e,d,s⟩:=o;dsimp only at e d s;subst d;simp only[cM b,if_true];refine ja A.length (λk y=>y=((k:Int),cI (A.take k) i 0,cI (A.take k) i 1,cI (A.take k) i 2,cI (A.take k) i 3)) (λk y g hk t L=>?_) (λy g t=>?_) (by simp[cI]) (by omega)
  ·subst t;have u:=h _ (bE hk);have j:Aa n (A.take (k+1)):=λa M=>h a (NP M);have lk:((A.take (k+1)).length:Int)<=300:=by grind
   have N:=vN j i 0;have O:=vN j i 1;have P:=vN j i 2;have Q:=vN j i 3;rw[mq hk] at N O P Q;simp only[cM hk,if_true,bW hk,Option.bind_some,Pp (hs _ (bE hk)) u.1,Hg u.2 (qY u.1 i),Xl,bT (show k<1000000 by omega)];refine L _ ?_;rw[mq hk,mq hk,mq hk,mq hk];have U:(mulR (dM A[k].ae i) A[k].ay).bK=dM A[k].ae i * cmp 0 A[k].ay:=rfl;have W:(mulR (dM A[k].ae i) A[k].ay).Mem=dM A[k].ae i * cmp 1 A[k].ay:=rfl;have X:(mulR (dM A[k].ae i) A[k].ay).bM=dM A[k].ae i * cmp 2 A[k].ay:=rfl;have Y:(mulR (dM A[k].ae i) A[k].ay).bO=dM A[k].ae i * cmp 3 A[k].ay:=rfl
   grind [wr]
  ·subst t;have ap:∀z:aC,cr p [z]=some (p++[z]):=λz=>Ap (by grind);simp only[eU,bX,cn,fQ,bW b,Option.bind_some,zcB,ap,bT (show i<1000000 by omega),yh];rw[bo];refine ⟨λv=>?_,λv=>?_⟩
   ·refine (Xo _ _).bind λr w=>?_;refine E _ ⟨?_,rfl,by simp_all⟩;dsimp only;rw[w];have Z:∀c,cmp c ({ bK:=cI A i 0,Mem:=cI A i 1,bM:=cI A i 2,bO:=cI A i 3 }:aC)=cI A i (min c 3):=λc=>by
     match c with
     |0=>rfl
     |1=>rfl
     |2=>rfl
     |c+3=>rw[Nat.min_eq_right (by omega)];rfl
    have eu:∀c,cI A i (min c 3)=cI A i c:=λc=>by
     match c with
     |0=>rfl
     |1=>rfl
     |2=>rfl
     |c+3=>rw[Nat.min_eq_right (by omega)];rfl
    grind
   grind
 ·obtain ⟨G,K,p⟩:=x;obtain ⟨e,d,s⟩:=o;dsimp only at e d s;subst d;simp only[eU,bX,cn,aY];rw[e];exact ⟨λq i b c=>q i b b c,λq i b _ c=>q i b c⟩
structure QV (s:bn) (st:cw) (i:Nat) (a:ca):Prop where
 up:∀m (h:m<st.ah.length),m+1=i->st.ah[m].bj<a.bj
 Eo:∃j∈st.aj,j.Id=a.bj
 shares:a_ a.ae s.am.length
 need:aL a.ay
structure Vv (s:bn) (st:cw):Prop where
 each:∀i (h:i<st.ah.length),QV s st i st.ah[i]
 fit:IH s.am st.ah
theorem Vv.KM{s:bn}{st:cw}(h:Vv s st):Aa s.am.length st.ah:=λa o=>by obtain ⟨i,j,rfl⟩:=km o;exact ⟨(h.each i j).shares,(h.each i j).need⟩
theorem Pr{s:bn}{st:cw}(g:lF s st):fY (zdl 5000 s st) (Vv s st):=by
 have M:=g.bp;have v:=g.cf;have hn:=g.spec.nodes;unfold zdl;refine xq st.ah (λi a=>QV s st i a) (λi f d t w=>?_) (λf t=>?_) (by omega)
 ·have hd:decide ((i:Int) > 0)=decide (0<i):=by simp
  have x:=g.shares _ (bE d);have fin:(∀m (h:m<st.ah.length),m+1=i->st.ah[m].bj<st.ah[i].bj)->bL ((WA 5000 st.aj st.ah[i].bj).bind λr=>
    if decide (r<0)=true then some false else (zbu 5000 st.ah[i].ae (s.am.length:Int)).bind λA=>
    if (!A)=true then some false else (Zu 5000 st.ah[i].ay).bind λk=>if (!k)=true then some false else f ((i+1:Nat):Int)) (λb=>b=true↔Vv s st):=λy=>by
   refine (vn (by omega) st.ah[i].bj).bind λr n=>?_;rw[bo];refine ⟨λh=>cS λq=>?_,λh=>?_⟩
   ·have:=n.1.2 (q.each i d).Eo
    simp_all
   ·simp only[br] at h;refine (HK _ _ (lA x (by decide))).bind λA o=>?_;rw[bo];refine ⟨λh=>cS λq=>?_,λu=>?_⟩
    ·have:=o.2 (q.each i d).shares
     simp_all
    ·simp only[iF,oh] at u;refine (zw _).bind λk p=>?_;rw[bo];refine ⟨λh=>cS λq=>?_,λE=>?_⟩
     ·have:=p.2 (q.each i d).need
      simp_all
     ·simp only[iF,oh] at E;exact w ⟨y,n.1.1 (by omega),o.1 u,p.1 E⟩
  simp only[fQ,cM d,if_true,bW d,Option.bind_some,bT (show i<1000000 by omega),hd];rw[bo];refine ⟨λh=>?_,λh=>?_⟩
  ·simp only[br] at h;obtain ⟨m,rfl⟩:∃m,i=m+1:=⟨i-1,by omega⟩;rw[wp1 (show m+1<1000000 by omega),bW (show m<st.ah.length by omega),aD,bo];refine ⟨λu=>cS λq=>?_,λu=>fin λN L e=>?_⟩
   ·have:=(q.each (m+1) d).up m (by omega) rfl
    grind
   simp_all
  simp_all
 ·simp only[eU,bX,cn];have G:Aa s.am.length st.ah:=λa z=>by
   obtain ⟨j,K,rfl⟩:=km z;exact ⟨(t j K).shares,(t j K).need⟩
  refine (XG (by omega) v (λa z=>lA (g.shares a z) (by decide)) G).bind λr w=>?_;rw[aY,w];exact ⟨λh=>⟨λi d=>t i d,h⟩,λh=>h.fit⟩
theorem Qo{l:List Int}(h:∀i (h:i+1<l.length),l[i]<l[i+1]):l.Pairwise (·<·):=by
 rw[yAZ];intro i j b d a;induction j with
 |zero=>omega
 |succ j ih=>grind
theorem asc_eq{l m:List Int}(a:l.Pairwise (·<·))(hm:m.Pairwise (·<·))(h:∀x,x∈l↔x∈m):l=m:=by
 induction l generalizing m with
 |nil=>
  cases m with
  |nil=>rfl
  |cons y m=>grind [List.mem_cons_self]
 |cons x l ih=>
  cases m with
  |nil=>grind
  |cons y m=>
   rw[yBm] at a hm;have e:x=y:=by
    rcases gn.1 ((h x).1 (rX ..)) with e | b
    ·exact e
    ·rcases gn.1 ((h y).2 (rX ..)) with e | d
     ·omega
     grind
   grind
theorem oP{s:bn}{st:cw}{H:List aM}{A:List ca}{F:List aC}(h:eO s st H A F)(g:∀r∈F,aL r):A.map (·.bj)=H.map (·.Id)/\IH F A:=by
 induction H generalizing A F with
 |nil=>rw[show A=[] from h];exact ⟨rfl,λi b c=>by grind [cI,vB,List.getElem_mem]⟩
 |cons j H ih=>
  obtain ⟨a,k,rfl,m,d,e⟩:=h;obtain ⟨n,f⟩:=ih e (uC d);refine ⟨by grind [eW.Eo],λi b c=>?_⟩;have:=f i (by grind [Zz]) c;rw[mI,pV,B_,AP] at this
  grind [ZE]
theorem Ko{s:bn}{st:cw}{n:Int}{H:List aM}{A:List ca}{F:List aC}(d:A.map (·.bj)=H.map (·.Id))(v:∀r∈F,aL r)(m:∀a∈A,∀j∈H,a.bj=j.Id->eW s st j a)(o:Aa n A)(p:IH F A):eO s st H A F:=by
 induction H generalizing A F with
 |nil=>
  cases A with
  |nil=>rfl
  |cons a A=>cases d
 |cons j H ih=>
  cases A with
  |nil=>cases d
  |cons a A=>
   rw[tn,tn] at d;have e:a.bj=j.Id:=by simp_all
   have f:A.map (·.bj)=H.map (·.Id):=by simp_all
   have w:=o a (rX ..);have t:Aa n A:=λb g=>o b (oD _ g);have fa:xD F a:=λi h=>vB.2 λc=>by have u:=p i h c;have x:=Yi w i c;have y:=vN t i c;have z:=vB.1 (v _ (bE h)) c;rw[ZE] at u;rw[pV,B_,AP];omega
   refine ⟨a,A,rfl,m a (rX ..) j (rX ..) e,fa,ih f (uC fa) (λb g k hk=>m b (oD _ g) k (oD _ hk)) t λi h c=>?_⟩;have u:=p i (by grind [Zz]) c;rw[mI,pV,B_,AP]
   grind [ZE]
theorem JG{s:bn}{st:cw}(J:dt s st):((st.aj.filter sP).map (·.Id)).Pairwise (·<·):=by
 have h:(st.aj.map (·.Id)).Pairwise (·<·):=Qo λi a=>by rw[Vb,Vb];exact J.bV i (by simp_all)
 grind
structure Wh (s:bn) (st:cw) (j:aM):Prop where
 has:(∃a∈st.ah,a.bj=j.Id)↔sP j=true
 Yk:∀a∈st.ah,a.bj=j.Id->eW s st j a
theorem HX{s:bn}{st:cw}(k:bm s)(J:dt s st)(A:ig s st):Vv s st/\∀j∈st.aj,Wh s st j:=by
 obtain ⟨o,p⟩:=oP A k.nodes.ok;have pw:=JG J;rw[<-o] at pw;have Bk:∀j∈st.aj,∀f∈st.aj,j.Id=f.Id->j=f:=λj b f d e=>by
  obtain ⟨m,n,rfl⟩:=km b;obtain ⟨u,g,rfl⟩:=km d;have:=J.bV.inj n g e
  simp_all
 refine ⟨⟨λi r=>?_,p⟩,λj b=>⟨⟨λ⟨a,h,e⟩=>?_,λt=>?_⟩,λa h e=>?_⟩⟩
 ·obtain ⟨j,b,P⟩:=A.mem _ (bE r);refine ⟨λm n e=>?_,⟨j,b,P.Eo.symm⟩,P.qB.shares,by rw[P.need];exact (J.each j b).ok.need⟩
  grind [List.pairwise_iff_getElem]
 ·have:a.bj∈st.ah.map (·.bj):=iT.2 ⟨a,h,rfl⟩
  grind
 ·have:j.Id∈(st.aj.filter sP).map (·.Id):=iT.2 ⟨j,QN.2 ⟨b,t⟩,rfl⟩
  grind
 ·obtain ⟨f,d,P⟩:=A.mem a h
  grind [eW.Eo]
theorem WM{s:bn}{st:cw}(k:bm s)(J:dt s st)(R:Vv s st)(h:∀j∈st.aj,Wh s st j):ig s st:=by
 have pw:(st.ah.map (·.bj)).Pairwise (·<·):=Qo λi g=>by rw[Vb,Vb];exact (R.each (i+1) (by simp_all)).up i (by grind) rfl
 refine Ko (n:=s.am.length) (asc_eq pw (JG J) λx=>⟨λf=>?_,λf=>?_⟩) k.nodes.ok (λa d j b e=>(h j (QN.1 b).1).Yk a d e) R.KM R.fit
 ·obtain ⟨a,d,rfl⟩:=iT.1 f;obtain ⟨i,g,rfl⟩:=km d;obtain ⟨j,b,e⟩:=(R.each i g).Eo;exact iT.2 ⟨j,QN.2 ⟨b,(h j b).has.1 ⟨_,d,e.symm⟩⟩,e⟩
 ·obtain ⟨j,b,rfl⟩:=iT.1 f;obtain ⟨a,d,e⟩:=(h j (QN.1 b).1).has.2 (QN.1 b).2
  grind
end Go.Plain
end
section
namespace Go.Plain
open Go.Abs
structure ud (u:Ba) (n:Int):Prop where
 shares:a_ u.ae n
 yL:u.ae.length<=300
 need:aL u.ay
 lo:0<=u.bJ
 hi:u.To<=281474976710656
def jN(u:Ba)(k t:Int):aC:=if u.bJ<=t/\t<u.To then mulR (dM u.ae k) u.ay else bN
def aZ(L:List Ba)(k t:Int):aC:=L.foldl (λr u=>Bh r (jN u k t)) bN
theorem nB(L:List Ba)(u:Ba)(k t:Int):aZ (L++[u]) k t=Bh (aZ L k t) (jN u k t):=by simp[aZ]
def DW(B:List lL)(k t:Int):Prop:=∃b∈B,b.Node=k/\b.bJ<=t/\t<b.To
open Classical in
noncomputable def bC(q:iE)(k t:Int):aC:=if DW q.az k t then bN else fj (kk q.S.am k) (aZ q.L k t)
structure qK (q:iE):Prop where
 spec:bm q.S
 now:0<=q.aX/\q.aX<=1099511627776
 cJ:zO q.az q.S.am.length
 used:∀u∈q.L,ud u q.S.am.length
 yL:q.L.length<=100
theorem pf_add{a b:aC}(d:∀c,0<=cmp c a/\cmp c a<=1099511627776)(e:∀c,0<=cmp c b/\cmp c b<=1099511627776):Xl 5000 a b=some (Bh a b):=by
 unfold Xl Bh;have f:=e 0;have g:=e 1;have h:=e 2;have i:=e 3;have j:=d 0;have k:=d 1;have m:=d 2;have n:=d 3
 grind [cmp,wr]
theorem pf_sub{a b:aC}(d:∀c,0<=cmp c a/\cmp c a<=1099511627776)(e:∀c,0<=cmp c b/\cmp c b<=1099511627776):zcB 5000 a b=some (fj a b):=by
 unfold zcB fj;have f:=e 0;have g:=e 1;have h:=e 2;have i:=e 3;have j:=d 0;have k:=d 1;have m:=d 2;have n:=d 3
 grind [cmp,wr]
theorem QW(a b:aC):∃r,Pu 5000 a b=some r:=⟨_,rfl⟩
theorem JM{u:Ba}{n:Int}(h:ud u n)(k t:Int)(c:Nat):0<=cmp c (jN u k t)/\cmp c (jN u k t)<=67108864:=by
 unfold jN;split
 ·rw[AP];exact gU (qY h.shares k) (vB.1 h.need c)
 grind [NH]
theorem GM(a:aC):Bh a bN=a:=dU λc=>by rw[vT,NH];omega
theorem Gp{L:List Ba}{n:Int}(h:∀u∈L,ud u n)(k t:Int)(c:Nat)(i:Nat):0<=cmp c (aZ (L.take i) k t)/\cmp c (aZ (L.take i) k t)<=67108864 * i:=by
 induction i with
 |zero=>simp[aZ,NH]
 |succ i ih=>
  by_cases a:i<L.length
  ·rw[Fc a,nB,vT];have:=JM (h _ (bE a)) k t c;omega
  grind [List.take_of_length_le]
section
variable{q:iE}(hq:qK q)
include hq
theorem VA(k t:Int):zbJ 5000 q k t=some (aZ q.L k t):=by
 have j:=hq.yL;unfold zbJ;refine bL.eq (ja q.L.length (λi x=>x=((i:Int),(aZ (q.L.take i) k t).bK,(aZ (q.L.take i) k t).Mem,(aZ (q.L.take i) k t).bM,(aZ (q.L.take i) k t).bO)) (λi x f a b m=>?_) (λx f b=>?_) (by simp[aZ,bN]) (by omega))
 ·subst b;have u:=hq.used _ (bE a);have n:=Gp hq.used k t;simp only[fQ];rw[if_pos (cM a),bW a,aD,bT (show i<1000000 by omega)];have st:aZ (q.L.take (i+1)) k t=Bh (aZ (q.L.take i) k t) (jN q.L[i] k t):=by rw[Fc a,nB]
  by_cases h:q.L[i].bJ<=t/\t<q.L[i].To
  ·rw[if_pos (by simp_all),Pp u.yL u.shares,aD,Hg u.need (qY u.shares k),aD];have d:jN q.L[i] k t=mulR (dM q.L[i].ae k) q.L[i].ay:=by unfold jN;simp_all
   have g:=JM u k t;rw[d] at g;have e:Xl 5000 ({ bK:=(aZ (q.L.take i) k t).bK,Mem:=(aZ (q.L.take i) k t).Mem,bM:=(aZ (q.L.take i) k t).bM,bO:=(aZ (q.L.take i) k t).bO }:aC) (mulR (dM q.L[i].ae k) q.L[i].ay)=some (Bh (aZ (q.L.take i) k t) (mulR (dM q.L[i].ae k) q.L[i].ay)):=
    pf_add (λc=>by grind) (λc=>by grind)
   simp_all
  ·rw[if_neg (by simp_all)];have d:jN q.L[i] k t=bN:=by unfold jN;grind
   grind [GM]
 ·subst b;dsimp only;rw[if_neg (by simp),aY,yh]
theorem Xz(k:Int){t:Int}(f:0<=t):fY (zb1 5000 q.az k t (i64.wrap (t+1))) (DW q.az k t):=by
 have g:=hq.cJ.len;refine (Ho q.az k t _ (by omega)).mono λr h=>h.trans ?_;constructor
 ·rintro ⟨b,a,m⟩;obtain ⟨i,d,rfl⟩:=km a;have o:=(hq.cJ.each i d).one;refine ⟨_,a,m.node,?_,m.r⟩;have j:=m.l;have n:=m.pq;have p:=m.r;have:=o.hi
  grind [wr]
 ·rintro ⟨b,a,m1,s,e⟩;obtain ⟨i,d,rfl⟩:=km a;have o:=(hq.cJ.each i d).one;have:=o.hi;have:=o.lo;exact ⟨_,a,m1,by omega,by grind [wr],by grind [wr],e⟩
theorem Rg{k:Nat}(hk:k<q.S.am.length){t:Int}(b:0<=t):bL (zbh 5000 q k t) λr=>r.1=bC q k t:=by
 unfold zbh;rw[VA hq,aD];refine (Xz hq k b).bind λr a=>?_;unfold bC;by_cases h:DW q.az k t
 ·rw[if_pos h,if_pos (a.2 h)];obtain ⟨x,e⟩:=QW (aZ q.L k t) { bK:=0,Mem:=0,bM:=0,bO:=0 };rw[e,aD,aY];rfl
 ·rw[if_neg h,if_neg λe=>h (a.1 e),bW hk,aD];have n:=hq.spec.nodes.ok _ (bE hk);have d:=Gp hq.used k t;have f:=hq.yL;rw[pf_sub (λc=>by grind [vB]) (λc=>by grind [List.take_length]),aD,aD];obtain ⟨x,e⟩:=QW (aZ q.L k t) q.S.am[k];rw[e,aD,aY];have:kk q.S.am k=q.S.am[k]:=by grind [kk]
  rw[this]
end
def timeV(q:iE)(x:Int):Prop:=x=q.aX∨(∃u∈q.L,x=u.bJ∨x=u.To)∨∃b∈q.az,x=b.bJ∨x=b.To
structure zZ (q:iE) (T:List Int):Prop where
 bV:T.Pairwise λa b=>a<b
 mem:∀x,x∈T↔q.aX<=x/\timeV q x
 len:T.length<=300
structure CQ (l:List Int) (now:Int) (T:List Int):Prop where
 bV:T.Pairwise λa b=>a<b
 mem:∀x,x∈T↔now<=x/\x∈l
 len:T.length<=l.length
theorem YB(l:List Int)(P:l.length<=300)(d:Int):bL (zb2 5000 l d) (CQ l d):=by
 unfold zb2;refine ja l.length (λi x=>x.2=(i:Int)/\CQ (l.take i) d x.1) (λi x f r g v=>?_) (λx f g=>?_) ⟨rfl,by simp,by simp,by simp⟩ (by omega)
 ·obtain ⟨T,y⟩:=x;obtain ⟨rfl,k⟩:=g;dsimp only at k ⊢;have E:=k.len;rw[BY] at E;rw[if_pos (cM r),fQ];have t:l.take (i+1)=l.take i++[l[i]]:=Fc r;have G:(l.take (i+1)).length=(l.take i).length+1:=by grind
  have same:CQ (l.take i) d T->(l[i]<d∨l[i]∈T)->CQ (l.take (i+1)) d T:=λh e=>⟨h.bV,λx=>by
   rw[t,mQ,Bl,h.mem];constructor
   ·grind
   ·rintro ⟨a,b | b⟩
    ·grind
    ·subst b;rcases e with e | e
     ·omega
     ·exact (h.mem _).1 e,by grind⟩
  refine ja T.length (λj x=>x=(j:Int)/\∀m (w:m<T.length),m<j->T[m]<l[i]) (λj x K n g L=>?_) (λx K g=>?_) ⟨rfl,λm _ h=>by omega⟩ (by omega)
  ·obtain ⟨rfl,M⟩:=g;rw[fQ,if_pos (cM n),bW n,aD,bW r,aD,bo];refine ⟨λh=>?_,λh=>?_⟩
   ·simp only[br] at h
    grind [bT]
   ·simp only[br] at h;rw[fQ,aD,bo];refine ⟨λe=>?_,λe=>?_⟩
    ·simp only[br] at e;dsimp only;rw[if_pos rfl,bT (show i<1000000 by omega)]
     grind
    ·simp only[br] at e;rw[if_pos (cM n),aD,aD,bo];refine ⟨λu=>?_,λu=>?_⟩
     ·simp only[my] at u
      grind [bT]
     ·simp only[my] at u;rw[xW (yCa n),aD,Ft (by grind),aD,aD,Ap (by grind),aD,jZ (yCa n),aD,Ap (by grind),aD,bT (show i<1000000 by omega)];have o:T=T.take j++T.drop j:=(NL ..).symm;have p:=k.bV;rw[o] at p;obtain ⟨p1,N,Q⟩:=NR.1 p;have R:∀x∈T.drop j,l[i]<x:=λx g=>by
       obtain ⟨m,w,rfl⟩:=NF.1 g
       grind [Nat.eq_zero_or_pos,List.pairwise_iff_getElem]
      have O:∀x∈T.take j,x<l[i]:=λx g=>by
       obtain ⟨m,w,rfl⟩:=NF.1 g
       grind
      refine v _ ⟨rfl,NR.2 ⟨NR.2 ⟨p1,by simp,λa z b A=>by grind⟩,N,λa z b A=>?_⟩,λx=>?_,?_⟩
      ·grind
      ·rw[t,mQ (s:=l.take i),Bl];have:=k.mem x;rw[o,mQ] at this;rw[mQ,mQ,Bl];constructor
       ·rintro ((a | a) | a)
        ·grind
        ·omega
        grind
       grind
      grind
  ·obtain ⟨rfl,M⟩:=g;rw[fQ,if_neg (by simp)];dsimp only;rw[if_neg (by simp),fQ,bW r,aD,bo];refine ⟨λe=>?_,λe=>?_⟩
   ·simp only[br] at e;dsimp only;rw[if_pos rfl,bT (show i<1000000 by omega)]
    grind
   ·simp only[br] at e;rw[if_neg (by simp)];dsimp only;rw[if_neg (by simp)];rw[xW (cR _),aD,Ft (by grind),aD,aD,Ap (by grind),aD,jZ (cR _),aD,Ap (by grind),aD,bT (show i<1000000 by omega)];rw[yh,List.drop_length,DM];refine v _ ⟨rfl,NR.2 ⟨k.bV,by simp,λa z b A=>?_⟩,λx=>?_,by grind⟩
    ·grind [List.getElem_of_mem]
    ·rw[t,mQ,Bl,mQ,Bl,k.mem]
     grind
 ·obtain ⟨T,y⟩:=x;obtain ⟨rfl,k⟩:=g;dsimp only at k ⊢;rw[if_neg (by simp),aY]
  simp_all
theorem Kx{q:iE}(hq:qK q):bL (zbc 5000 q) (zZ q):=by
 have o:=hq.yL;have p:=hq.cJ.len;unfold zbc;refine ja q.L.length (λi x=>x.1=(i:Int)/\x.2.length=1+2 * i/\∀y,y∈x.2↔y=q.aX∨∃u∈q.L.take i,y=u.bJ∨y=u.To) (λi x f b d j=>?_) (λx f d=>?_) ⟨rfl,rfl,λy=>by simp⟩ (by omega)
 ·obtain ⟨y,T⟩:=x;obtain ⟨rfl,g,a⟩:=d;dsimp only at g a ⊢;rw[if_pos (cM b)];simp only[bW b,Option.bind_some];rw[Ap (by grind),aD,Ap (by grind),aD,bT (show i<1000000 by omega)];refine j _ ⟨rfl,by grind,λy=>?_⟩;rw[Fc b];simp only[mQ,Bl,a];constructor
  ·rintro (((h | ⟨u,h1,h2⟩) | h) | h)
   ·omega
   ·grind
   ·simp_all
   simp_all
  grind
 ·obtain ⟨y,n⟩:=x;obtain ⟨rfl,k,e⟩:=d;dsimp only at k e ⊢;rw[if_neg (by simp)];rw[yh] at e;refine ja q.az.length (λi x=>x.1=(i:Int)/\x.2.length=n.length+2 * i/\∀y,y∈x.2↔y∈n∨∃u∈q.az.take i,y=u.bJ∨y=u.To) (λi x f b d j=>?_) (λx f d=>?_) ⟨rfl,rfl,λy=>by simp⟩ (by omega)
  ·obtain ⟨y,T⟩:=x;obtain ⟨rfl,g,a⟩:=d;dsimp only at g a ⊢;rw[if_pos (cM b)];simp only[bW b,Option.bind_some];rw[Ap (by grind),aD,Ap (by grind),aD,bT (show i<1000000 by omega)];refine j _ ⟨rfl,by grind,λy=>?_⟩;rw[Fc b];simp only[mQ,Bl,a];constructor
   ·rintro (((h | ⟨u,h1,h2⟩) | h) | h)
    ·simp_all
    ·grind
    ·simp_all
    simp_all
   grind
  ·obtain ⟨y,T⟩:=x;obtain ⟨rfl,g,a⟩:=d;dsimp only at g a ⊢;rw[if_neg (by simp)];rw[yh] at a;refine (YB T (by omega) q.aX).bind λR m=>?_;rw[aY];refine ⟨m.bV,λx=>?_,by have:=m.len;omega⟩;rw[m.mem,a,e,or_assoc];rfl
end Go.Plain
end
section
namespace Go.Plain
open Go.Abs
theorem jn_ite{X R:Type}{r:X->Option R}{c:Prop}[Decidable c]{a b:X}:jn r (λj=>if c then j a else j b)=r (if c then a else b):=by grind [Go.Abs.jn]
theorem Rq{l:List cW}{n:Int}(h:a_ l n){i:Int}:dM l i > 0↔∃x∈l,x.Node=i:=by
 have b:∀x∈l,1<=x.aK:=λx a=>(h.mem x a).2.2.1;clear h;induction l with
 |nil=>simp[dM]
 |cons y l ih=>
  have d:=ih λx a=>b x (oD _ a);have f:=b y (rX ..);have g:=xH (l:=l) (λx a=>by grind) i;have e:dM (y::l) i=(if y.Node=i then y.aK else 0)+dM l i:=by simp[dM]
  grind
def zr(st:cw)(node b:Int)(a:ca):Prop:=∃j∈st.aj,j.Id=a.bj/\(∃x∈a.ae,x.Node=node)/\b<j.Start+j.aW
theorem SG{s:bn}{st:cw}(v:lF s st)(R:Vv s st)(node d:Int):bL (zdG 5000 st node d) λb=>dt s st->(b=true↔∃a∈st.ah,zr st node d a):=by
 have T:=v.bp;have O:=v.cf;unfold zdG;refine xq st.ah (λi a=>dt s st->¬zr st node d a) (λi f t L w=>?_) (λf L=>?_) (by omega)
 ·simp only[fQ,cM t,if_true,bW t,Option.bind_some,bT (show i<1000000 by omega)];have u:=bE t;refine (vn (by omega) st.ah[i].bj).bind λr y=>?_;rw[bo];refine ⟨λh=>?_,λh=>?_⟩
  ·simp only[br] at h;have g:=y.2.1 h;have S:=(R.each i t).shares;obtain ⟨M,e⟩:=FJ (l:=st.aj) g.lo (by have:=g.lo;have:=g.hi;omega);have z:=bE M;have fin:bL (if decide (i64.wrap (st.aj[r.toNat].Start+st.aj[r.toNat].aW) > d)=true then some true else f ((i+1:Nat):Int)) (λb=>(∃x∈st.ah[i].ae,x.Node=node)->dt s st->(b=true↔∃a∈st.ah,zr st node d a)):=by
    rw[bo];refine ⟨λk=>?_,λk=>?_⟩
    ·rw[aY];intro E J;have o:=(J.each _ z).ok;have:=o.start;have:=o.wall;rw[wr (by omega) (by omega)] at k;simp only[br] at k;exact ⟨λ_=>⟨_,u,_,z,g.is,E,k⟩,λ_=>rfl⟩
    ·refine (w λJ G=>?_).mono λb P _=>P;obtain ⟨j,n,K,-,N⟩:=G;have:j=st.aj[r.toNat]:=by
      obtain ⟨m,Q,rfl⟩:=km n;have:=J.bV.inj Q M (by rw[K,g.is])
      simp_all
     subst this;have o:=(J.each _ z).ok;have:=o.start;have:=o.wall;rw[wr (by omega) (by omega)] at k
     simp_all
   rw[Pp (lA (v.shares _ u) (by decide)) S,aD,e,bo];simp only[Option.bind_some];refine ⟨λk=>?_,λk=>?_⟩
   ·simp only[br] at k
    grind [Rq]
   ·simp only[br] at k;rw[if_neg (by simp)];exact w λJ ⟨j,n,K,p,N⟩=>k ((Rq S).2 p)
  ·simp only[br] at h;rw[if_neg (by simp)];exact w λJ ⟨j,n,K,p,N⟩=>by simp_all
 ·simp only[eU,bX,cn,aY,Fe];rintro J ⟨a,u,G⟩;exact Cy (A:=λa=>dt s st->¬zr st node d a) L a u J G
theorem Ui{s:bn}{st:cw}(y:lF s st)(R:Vv s st):bL (zdD 5000 s st) λb=>dt s st->(b=true↔zq s st):=by
 have E:=y.cJ;unfold zdD;refine xq st.az (λi b=>(b.Id<st.dV/\st.aX<b.To)/\(dt s st->¬∃a∈st.ah,zr st b.Node b.bJ a)) (λi f k z n=>?_) (λf z=>?_) (by omega)
 ·simp only[fQ,cM k,if_true,bW k,Option.bind_some,bT (show i<1000000 by omega)];have d:=bE k;rw[bo];refine ⟨λh=>?_,λh=>?_⟩
  ·rw[aY];intro J;simp only[gp,br] at h;simp only[bX,Fe];exact λq=>by have:=q.live _ d;omega
  ·simp only[gp,br] at h;refine (SG y R _ _).bind λr g=>?_;rw[bo];refine ⟨λo=>?_,λo=>n ⟨by omega,λJ=>λq=>o ((g J).2 q)⟩⟩;rw[aY];intro J;simp only[bX,Fe];intro q;obtain ⟨a,p,j,t,e,⟨x,u,v⟩,w⟩:=(g J).1 o;exact q.zC a p j t e x u _ d v.symm w
 ·simp only[eU,bX,cn];refine (WJ _ _ (by omega)).bind λr n=>?_;rw[aY];intro J;rw[n];refine ⟨λh=>⟨h,λb d=>?_,λa p j t e x u b d v w=>?_⟩,λq=>q.cJ⟩
  ·grind [List.getElem_of_mem]
  ·obtain ⟨m,A,rfl⟩:=km d;exact (z m A).2 J ⟨a,p,j,t,e,⟨x,u,v.symm⟩,w⟩
structure AtA (l:List ca) (id:Int) (r:Int):Prop where
 lo:0<=r
 hi:r.toNat<l.length
 is:l[r.toNat].bj=id
theorem Uv{l:List ca}(g:l.length<=300)(id:Int):bL (zel 5000 l id) λr=>(0<=r↔∃a∈l,a.bj=id)/\(0<=r->AtA l id r):=by
 unfold zel;refine xq l (λ_ j=>j.bj≠id) (λi f h _ b=>?_) (λf h=>?_) (by omega)
 ·simp only[cM h,if_true,bW h,Option.bind_some,bT (show i<1000000 by omega),bo,aY,my];exact ⟨λe=>⟨⟨λ_=>⟨_,bE h,e⟩,λ_=>by omega⟩,λ_=>⟨by omega,by omega,by simp_all⟩⟩,λe=>b e⟩
 ·simp only[eU,bX,cn,aY];refine ⟨⟨λh=>by omega,λ⟨j,d,e⟩=>absurd e (Cy (A:=λj=>j.bj≠id) h j d)⟩,λh=>by omega⟩
theorem Vv.Bk{s:bn}{st:cw}(R:Vv s st){i j:Nat}(o:i<st.ah.length)(u:j<st.ah.length)(e:st.ah[i].bj=st.ah[j].bj):i=j:=by
 have pw:(st.ah.map (·.bj)).Pairwise (·<·):=Qo λi o=>by rw[Vb,Vb];exact (R.each (i+1) (by simp_all)).up i (by grind) rfl
 grind [List.pairwise_iff_getElem]
structure OM (s:bn) (st:cw) (j:aM):Prop where
 NN:np s st j
 waits:GN s st j
 has:Wh s st j
theorem ref_job{s:bn}(k:bm s){st:cw}(t:lF s st)(R:Vv s st){j:aM}(T:j∈st.aj):fY (zeQ 5000 s st j) (OM s st j):=by
 have kv:=k.tS;have hl:=t.bp;have E:=t.cf;unfold zeQ;refine (Fv j (t.after j T)).bind λr u=>?_;rw[bo];refine ⟨λh=>cS λq=>?_,λh=>?_⟩
 ·have:=u.2 q.NN.ok;rw[this] at h;simp only[gp,br,NE,bX,false_or] at h;have:=q.NN.next;have:=q.NN.user;have:=q.NN.queue;have:=q.NN.born;have:=q.NN.start;have:=q.NN.fin;omega
 ·simp only[gp,br,not_or,iF,oh] at h;have p:=u.1 h.1.1.1.1.1.1;have U:=p.state.st;have X:=p.start;have Y:=p.wall;simp only[jn_ite];generalize Z:(if decide (j.State≥5)=true then (3:Int) else if (j.State == 4)=true then 2 else if (j.State == 3)=true then 1 else 0)=e;have ev:e=jc j.State:=by
   rw[<-Z];simp only[jc,br,my,ge_iff_le];omega
  have eb:=Ej j.State;refine (Uv E j.Id).bind λr8 v=>?_;simp only[fQ,zeN,Option.bind_some];rw[ev,wr (x:=s.aF+jc j.State) (by omega) (by omega),bo];refine ⟨λO=>cS λq=>?_,λO=>?_⟩
  ·have:=q.NN.version
   grind
  ·simp only[br] at O;have I:np s st j:=⟨p,by omega,by omega,by omega,by omega,by omega,by omega,by omega⟩;have eh:((j.State == 3) || (j.State == 4))=sP j:=rfl;rw[eh,bo];refine ⟨λh3=>cS λq=>?_,λh3=>?_⟩
   ·have:=q.has.has
    simp_all
   ·have n:(∃a∈st.ah,a.bj=j.Id)↔sP j=true:=by
     grind
    rw[bo];refine ⟨λG=>se ?_,λG=>?_⟩
    ·simp only[br] at G;refine ⟨I,λhs=>by omega,n,λa A e=>?_⟩
     grind
    ·simp only[br] at G;have A:=p.mf;refine xq j.aI (λ_ d=>∃i∈st.aj,i.Id=d.bj) (λm g w P hr=>?_) (λg P=>?_) (by omega)
     ·simp only[cM w,if_true,bW w,Option.bind_some,bT (show m<1000000 by omega)];refine (vn (by omega) j.aI[m].bj).bind λr y=>?_;rw[bo];refine ⟨λz=>cS λq=>?_,λz=>hr (y.1.1 ?_)⟩
      ·have:=y.1.2 ((q.waits (by omega)).after _ (bE w))
       simp_all
      simp_all
     ·simp only[eU,bX,cn];obtain ⟨b,e1,e2⟩:=Sx t.spec k (q:=j.Queue) (m:=j.aK) p.need p.uM;rw[e2,aD,bo];refine ⟨λz=>cS λq=>?_,λz=>?_⟩
      ·have:=(q.waits (by omega)).fits
       simp_all
      ·simp only[iF,oh] at z;subst z;have W:GN s st j:=λ_=>⟨e1,Cy P⟩;rw[bo];refine ⟨λK=>se ⟨I,W,n,λa A e=>?_⟩,λK=>?_⟩
       ·simp_all
       ·simp only[iF,oh] at K;have r0:=v.1.2 (n.2 K);have f:=v.2 r0;obtain ⟨Q,e3⟩:=FJ (l:=st.ah) f.lo (by have:=f.lo;have:=f.hi;omega);have o:=bE Q;rw[wr (x:=j.Start+j.aW) (by omega) (by omega),e3,bo];simp only[Option.bind_some];refine ⟨λL=>?_,λL=>cS λq=>?_⟩
        ·simp only[br] at L;rw[bo];refine ⟨λM=>?_,λM=>cS λq=>M (gC.2 (q.has.Yk _ o f.is).need)⟩;have eN:=gC.1 M;refine (YW t.spec k j _ (lA (t.shares _ o) (by decide))).bind λr N=>?_;rw[aY,N];refine ⟨λS=>⟨I,W,n,λa A e=>?_⟩,λq=>(q.has.Yk _ o f.is).qB⟩;have:a=st.ah[r8.toNat]:=by
          obtain ⟨m,w,rfl⟩:=km A;have:=R.Bk w Q (by rw[e,f.is])
          simp_all
         subst this;exact ⟨e,eN,S,L⟩
        ·have:=(q.has.Yk _ o f.is).now
         simp_all
theorem Gs{s:bn}{st:cw}(d:lF s st):fY (zcR 5000 s st) (bx s st):=by
 have hl:=d.bp;have hq:=d.stamps;have T:=d.use;unfold zcR;simp only[fQ];refine (Tb s d.spec).bind λr g=>?_;rw[bo];refine ⟨λh=>?_,λh=>?_⟩
 ·rw[if_pos trivial];refine cS λq=>?_;have:=g.2 q.spec;rw[this] at h;have W:=q.spec.ids;have:=q.nums.now;have:=q.nums.next;have:=q.nums.book;rw[wr (x:=s.jX+1) (by omega) (by omega)] at h
  grind
 ·simp only[gp,br,not_or,iF,oh] at h;have k:=g.1 h.1.1.1.1.1;have W:=k.ids;rw[wr (x:=s.jX+1) (by omega) (by omega)] at h;refine (Jw st.dV).bind λr2 n=>?_;rw[bo];refine ⟨λy=>cS λq=>?_,λy=>?_⟩
  ·have:=n.2 (by have:=q.nums.book;omega)
   simp_all
  ·simp only[iF,oh] at y;have u2:=n.1 y;have X:PJ s st:=⟨by omega,by omega,by omega⟩;rw[bo];refine ⟨λP=>?_,λP=>?_⟩
   ·rw[if_pos trivial];refine cS λq=>?_;have:=q.bp.len
    grind
   ·simp only[br] at P;refine (Pr d).bind λr4 z=>?_;rw[bo];refine ⟨λA=>?_,λA=>?_⟩
    ·rw[if_pos trivial];refine cS λq=>?_
     grind [HX,bx.bp,bx.cf]
    ·simp only[iF,oh] at A;have R:=z.1 A;refine (Ui d R).bind λr5 E=>?_;rw[bo];refine ⟨λG=>?_,λG=>?_⟩
     ·rw[if_pos trivial];refine cS λq=>?_
      grind [bx.bp,bx.kH]
     ·simp only[iF,oh] at G;refine (ZM st.nR s.aR (by omega)).bind λr6 o=>?_;rw[bo];refine ⟨λv=>?_,λv=>?_⟩
      ·rw[if_pos trivial];refine cS λq=>?_;have:=o.2 ⟨q.use.len,q.use.use⟩;rw[this] at v;have:=q.use.qlen
       simp_all
      ·simp only[gp,IX,ne_eq,not_or,TX,iF,oh] at v;have Q:=o.1 v.1;refine (Jw st.aE.am).bind λr7 p=>?_;rw[bo];refine ⟨λK=>cS λq=>?_,λK=>?_⟩
       ·have:=p.2 q.use.nodes
        simp_all
       ·simp only[iF,oh] at K;have Y:=p.1 K;refine xq st.aE.aq (λ_ x=>0<=x/\x<=281474976710656) (λi f a _ w=>?_) (λf Z=>?_) (by omega)
        ·simp only[cM a,if_true,bW a,Option.bind_some,bT (show i<1000000 by omega)];refine (Jw _).bind λr8 t=>?_;rw[bo];refine ⟨λh8=>cS λq=>?_,λh8=>w (t.1 (by simp_all))⟩;have:=t.2 (q.use.stamps _ (bE a))
         simp_all
        ·simp only[eU,bX,cn];have U:Kg s st:=⟨Q.1,Q.2,by omega,Y,Cy Z⟩;refine xq st.aj (λi j=>OM s st j/\Js st.aj i<j.Id) (λi f a _ w=>?_) (λf S=>?_) (by omega)
         ·have hd:decide ((i:Int) > 0)=decide (0<i):=by simp
          have b:=bE a;simp only[cM a,if_true,bW a,Option.bind_some,bT (show i<1000000 by omega),hd];refine (ref_job k d R b).bind λr9 u=>?_;rw[bo];refine ⟨λL=>cS λq=>?_,λL=>?_⟩
          ·have:=u.2 ⟨q.bp.each _ b,q.waits _ b,(HX k q.bp q.cf).2 _ b⟩
           simp_all
          ·simp only[iF,oh] at L;have M:=u.1 L;rw[bo];refine ⟨λe=>?_,λe=>?_⟩
           ·simp only[br] at e;obtain ⟨m,rfl⟩:∃m,i=m+1:=⟨i-1,by omega⟩;rw[wp1 (show m+1<1000000 by omega),bW (show m<st.aj.length by omega),aD,bo];refine ⟨λN=>cS λq=>?_,λN=>w ⟨M,?_⟩⟩
            ·have:=q.bp.bV m a
             grind
            ·rw[vK (by omega)]
             simp_all
           ·simp only[br] at e;have:i=0:=by omega
            subst this;refine w ⟨M,?_⟩;have:=M.NN.ok.id
            grind [Js]
         ·simp only[eU,bX,cn];have O:dt s st:=QO (by omega) λi a=>⟨(S i a).1.NN,(S i a).2⟩;have all:∀j∈st.aj,OM s st j:=λj b=>by
           grind [List.getElem_of_mem]
          exact se ⟨k,X,O,λj b=>(all j b).waits,WM k O R λj b=>(all j b).has,(E O).1 G,U⟩
end Go.Plain
end
section
namespace Go.Plain
open Go.Abs
theorem qN{l:List Int}(h:l.length<=1000000):zaT 5000 l=some l:=by unfold zaT;exact Ft h
theorem CK{s:bn}(hs:mY s):zcT 5000 s=some s:=by
 have g:=hs.nodes;have h:=hs.parts;have j:=hs.gT;unfold zcT;rw[HJ (by omega),aD,show zco 5000 s.aG=some s.aG from Ft (by omega),aD];refine bL.eq (ja s.aG.length (λi x=>x=((i:Int),s.aG)) (λi x f a b d=>?_) (λx f b=>?_) rfl (by omega))
 ·subst b;have e:=hs.part _ (bE a);simp only[cM a,if_true,bW a,Option.bind_some,bT (show i<1000000 by omega),qN (show s.aG[i].length<=1000000 by omega),Int.toNat_natCast,yBQ]
  simp_all
 ·subst b;simp only[eU,bX,cn];rw[show zbe 5000 s.aq=some s.aq from Ft (by omega),aD];refine ja s.aq.length (λi x=>x=((i:Int),s.aq)) (λi x f a b d=>?_) (λx f b=>?_) rfl (by omega)
  ·subst b;have e:=hs.queue _ (bE a);simp only[cM a,if_true,bW a,Option.bind_some,bT (show i<1000000 by omega),qN (show s.aq[i].aR.length<=1000000 by omega),Int.toNat_natCast,yBQ];exact d _ (Prod.ext rfl (yBQ a))
  ·subst b;simp only[eU,bX,cn,aY]
theorem TN{n:Int}(h:1<=n/\n<=8):pW 5000 n=some (List.replicate n.toNat 0):=by simp only[pW,Zs];rw[if_neg (by grind),if_neg (by simp_all)];simp only[Option.bind_some,EY];rw[if_pos (by omega)];rfl
theorem SA{n:Int}(h:1<=n/\n<=256):zdS 5000 n=some (.inr n):=by
 simp only[zdS]
 simp_all
theorem new_ok{s:bn}(hs:mY s)(k:bm s):fD 5000 s=some (.inr (List.replicate s.aq.length 0,[],s.am,s.aG,s.aq,s.aR,s.ai.kN,s.ai.cK,s.ai.fB,s.ai.bI,s.bR,s.Mode,s.aj,s.jX,s.aF,s.bg,s.cX,s.In,s.Out,s.bQ,0,1,1,List.replicate s.aR.toNat 0,0,s.aj,s.am)):=by have a:=hs.gT;unfold fD;rw[AO hs k,aD,if_neg (by simp),SA k.bp,aD];dsimp only;rw[Dn hs k,aD];dsimp only;rw[CK hs,aD,TN k.Ae,aD];unfold EY;rw[if_pos (by omega),aD];rw[xAc]
theorem Ct{j:aM}(h:j.aI.length<=1000000):jg 5000 j=some j:=by unfold jg;rw[show zaC 5000 j.aI=some j.aI from Ft h];rfl
theorem MW{l:List aM}(e:l.length<=300)(d:∀j∈l,j.aI.length<=10):zcI 5000 l=some l:=by
 unfold zcI;rw[show zbD 5000 l=some l from Ft (by omega),aD];refine bL.eq (ja l.length (λi x=>x=((i:Int),l)) (λi x f a b g=>?_) (λx f b=>?_) rfl (by omega))
 ·subst b;have h:=d _ (bE a);simp only[cM a,if_true,bW a,Option.bind_some,bT (show i<1000000 by omega),Ct (show l[i].aI.length<=1000000 by omega),Int.toNat_natCast,yBQ]
  simp_all
 ·subst b;simp only[eU,bX,cn,aY]
def mapA(A:List ca):List (Int×ca):=A.map λa=>(a.bj,a)
def zU(A:List ca):Prop:=(A.map (·.bj)).Pairwise (·<·)
theorem WD{A:List ca}(h:zU A):∀i (d:i<A.length),cE (mapA A) A[i].bj=some A[i]:=by
 induction A with
 |nil=>simp_all
 |cons a A ih=>
  unfold zU at h;rw[tn,yBm] at h;intro i d
  match i,d with
  |0,d=>simp[mapA,cE]
  |i + 1, d=>
   have b:i<A.length:=by simp_all
   have:=h.1 A[i].bj (iT.2 ⟨_,bE b,rfl⟩);have e:cE (mapA (a::A)) A[i].bj=cE (mapA A) A[i].bj:=by
    simp only[mapA,tn,cE]
    grind
   rw[List.getElem_cons_succ,e];exact ih h.2 i b
theorem GB{A:List ca}{q:Int}(h:∀a∈A,a.bj≠q):cE (mapA A) q=none:=by
 induction A with
 |nil=>rfl
 |cons a A ih=>simp only[mapA,tn,cE];rw[if_neg (h a (rX ..))];exact ih λb d=>h b (oD _ d)
theorem XI{A:List ca}{a:ca}(h:∀b∈A,b.bj≠a.bj):jP (mapA A) a.bj a=mapA (A++[a]):=by
 induction A with
 |nil=>rfl
 |cons b A ih=>
  have:=ih λc d=>h c (oD _ d);simp only[mapA,List.cons_append,tn,jP] at this ⊢
  simp_all
theorem i64wf{n:Int}(h:0<=n/\n<=1048576):(Lit.int .i64 n).wf=true:=by
 have a:IntKind.i64.min=-9223372036854775808:=by decide
 have b:IntKind.i64.max=9223372036854775807:=by decide
 simp only[Lit.wf,bG,br,a,b];omega
theorem JA{A:List ca}(i:A.length<=300)(h:zU A)(j:∀a∈A,0<=a.bj/\a.bj<=1048576):zt (λk=>k) (mapA A)=some (A.map (·.bj)):=by
 have e:(mapA A).map Prod.fst=A.map (·.bj):=by simp[mapA]
 unfold zt;have b:∀p∈mapA A,(Lit.int .i64 p.1).wf=true:=λp d=>by
  obtain ⟨a,m,rfl⟩:=iT.1 d
  grind [i64wf]
 have f:(A.map (·.bj)).Nodup:=h.imp λh=>by omega
 have g:(mapA A).length<=1000000:=by grind [mapA]
 rw[e,if_pos ⟨g,f,b⟩,List.mergeSort_of_pairwise (h.imp λh=>by grind)];simp
theorem DG{A:List ca}(j:A.length<=300)(h:zU A)(k:∀a∈A,0<=a.bj/\a.bj<=1048576)(hs:∀a∈A,a.ae.length<=300):aU 5000 (mapA A)=some A:=by
 unfold aU;rw[JA j h k,aD];refine bL.eq (ja (A.map (·.bj)).length (λi x=>x=((i:Int),A.take i)) (λi x f g d m=>?_) (λx f d=>?_) (by simp) (by grind))
 ·subst d;have b:i<A.length:=by simp_all
  have e:=WD h i b;have n:=hs _ (bE b);simp only[cM g,if_true,bW g,Option.bind_some,bT (show i<1000000 by omega),Vb,e,oel,Hs (show A[i].ae.length<=1000000 by omega)]
  grind [Ap,List.take_succ_eq_append_getElem]
 ·subst d;simp only[eU,bX,cn,aY,xw,yh]
theorem BD{l:List lL}(h:l.length<=1000000):zaN 5000 l=some l:=by unfold zaN;exact Ft h
theorem beq_dep(a:dS):dS.beq a a=true:=by simp[dS.beq]
theorem Tf(a:cW):cW.beq a a=true:=by simp[cW.beq]
theorem XR(a:lL):lL.beq a a=true:=by simp[lL.beq]
theorem LV(a:aC):aC.beq a a=true:=gC.2 rfl
theorem lpT{α:Type}{b:(Int->Option Bool)->Int->Option Bool}(l:List α)(hs:∀(i:Nat)(f:Int->Option Bool)(h:i<l.length),b f (i:Int)=f ((i+1:Nat):Int))(a:∀f,b f (l.length:Int)=some true){N:Nat}(d:l.length<N):bB b N 0=some true:=
 bL.eq (xq l (λ_ _=>True) (λi f h _ e=>by simp_all) (λf _=>by rw[a];exact ⟨_,rfl,rfl⟩) d)
theorem G_(l:List Int)(a:l.length<=300):zc4 5000 l l=some true:=by
 unfold zc4;rw[if_neg (by simp)];refine lpT l (λi f h=>?_) (λf=>?_) (by omega)
 ·simp only[cM h,if_true,bW h,Option.bind_some,bT (show i<1000000 by omega),yCg,bX,cn]
 ·simp only[eU,bX,cn]
theorem VR(j:aM)(a:j.aI.length<=300):zd9 5000 j j=some true:=by
 unfold zd9;rw[if_neg (by simp)];refine lpT j.aI (λi f h=>?_) (λf=>?_) (by omega)
 ·simp only[cM h,if_true,bW h,Option.bind_some,bT (show i<1000000 by omega),beq_dep,NE,bX,cn]
 ·simp only[eU,bX,cn,yBV,LV,Bool.and_self]
theorem SF(l:List aM)(b:l.length<=300)(a:∀j∈l,j.aI.length<=10):zek 5000 l l=some true:=by
 unfold zek;rw[if_neg (by simp)];refine lpT l (λi f h=>?_) (λf=>?_) (by omega)
 ·have:=a _ (bE h);simp only[cM h,if_true,bW h,Option.bind_some,bT (show i<1000000 by omega),VR l[i] (by omega),NE,bX,cn]
 ·simp only[eU,bX,cn]
theorem Mt(l:List cW)(a:l.length<=300):zee 5000 l l=some true:=by
 unfold zee;rw[if_neg (by simp)];refine lpT l (λi f h=>?_) (λf=>?_) (by omega)
 ·simp only[cM h,if_true,bW h,Option.bind_some,bT (show i<1000000 by omega),Tf,NE,bX,cn]
 ·simp only[eU,bX,cn]
theorem MP(l:List ca)(d:l.length<=300)(b:∀a∈l,a.ae.length<=300):zeh 5000 l l=some true:=by
 unfold zeh;rw[if_neg (by simp)];refine lpT l (λi f h=>?_) (λf=>?_) (by omega)
 ·have:=b _ (bE h);simp only[fQ,cM h,if_true,bW h,Option.bind_some,bT (show i<1000000 by omega),yCg,LV,Mt l[i].ae this,NE,bX,cn]
 ·simp only[eU,bX,cn]
theorem Qi(l:List lL)(a:l.length<=300):zei 5000 l l=some true:=by
 unfold zei;rw[if_neg (by simp)];refine lpT l (λi f h=>?_) (λf=>?_) (by omega)
 ·simp only[cM h,if_true,bW h,Option.bind_some,bT (show i<1000000 by omega),XR,NE,bX,cn]
 ·simp only[eU,bX,cn]
theorem Ov{s:bn}{st:cw}(a:lF s st):zeo 5000 st st=some true:=by have b:=a.bp;have d:=a.use;have e:=a.stamps;have f:=a.cJ;unfold zeo;rw[if_pos (by simp),SF _ (by omega) a.after,aD,if_pos rfl,MP _ a.cf a.sh,aD,if_pos rfl,Qi _ (by omega),aD,if_pos rfl,G_ _ (by omega),aD,if_pos rfl,G_ _ (by omega),aD];simp
end Go.Plain
end
section
namespace Go.Plain
open Go.Abs
theorem Kv{l:List aM}(h:b_ l)(n:Nat):b_ (l.take n):=λi a=>by rw[BY] at a;rw[Ss,Ss];exact h i (by omega)
theorem VJ{l:List aM}(d:l.length<=300)(hs:b_ l){id:Int}(h:∀j∈l,j.Id<id):zaG 5000 l id=some ((l.length:Int),false):=by
 unfold zaG;have e:(bB (λb (a:Int×Int)=>
   if (decide (a.1<a.2))=true then
    (
     (aB l (i64.wrap (Int.fdiv (u64.wrap (i64.wrap (a.1+a.2))) (2 ^ 1)))).bind λg=>
     some (decide (g.Id≥id))).bind λk=>
    if (!k)=true then
     b ((i64.wrap ((i64.wrap (Int.fdiv (u64.wrap (i64.wrap (a.1+a.2))) (2 ^ 1)))+1)),a.2)
    else
     b (a.1,(i64.wrap (Int.fdiv (u64.wrap (i64.wrap (a.1+a.2))) (2 ^ 1))))
   else
    some a.1) 5000 (0,(l.length:Int)))=some (l.length:Int):=by
  refine bL.eq (half d hs id (λj=>some (decide (j.Id<id))) (λj n=>rfl) (λi=>some i) (λi m o p=>?_) _ (λf x=>?_))
  ·rw[aY];rcases Xh m with q | q
   ·grind
   ·rw[q]
  grind
 simp_all
theorem put_ok{l:List aM}{n:Nat}(hn:n<l.length)(d:l.length<=300)(hs:b_ l){m:Int}(hm:(l.length:Int)<=m)(a:f_ l[n]):zbU 5000 (l.take n) l[n] m=some (l.take (n+1),0):=by
 obtain ⟨r,e,h⟩:=AR l[n];have b:=h.2 a;subst b;have f:=a.mf;have g:(l.take n).length=n:=by grind
 unfold zbU;rw[e,aD,if_neg (by simp),VJ (by omega) (Kv hs n) (λj a=>?_),aD]
 ·rw[if_neg (by simp),if_neg (by grind),Ct (by omega),aD];unfold zbg;have sl:slice? (l.take n) ((l.take n).length:Int) ((l.take n).length:Int)=some []:=by
   unfold slice?
   simp_all
  rw[sl,aD,if_neg (by simp),if_pos (by simp),Ap (by grind),aD,aD,Fc hn]
 ·obtain ⟨i,k,rfl⟩:=km a;rw[Ss];exact hs.lt (by omega) hn
def dj(F:List aC)(l:List ca):List aC:=l.foldl kP F
structure TInv (s:bn) (st:cw) (i:Nat) (x:Int×(List aC)×List (Int×ca)):Prop where
 ix:x.1=(i:Int)
 h:∃H,eO s st H (st.ah.drop i) x.2.1
 len:x.2.1.length=s.am.length
 XT:∀r∈x.2.1,aL r
 m:x.2.2=mapA (st.ah.take i)
 fr:x.2.1=dj s.am (st.ah.take i)
theorem AF{s:bn}{st:cw}(q:bx s st):zU st.ah:=by have h:=(oP q.cf q.spec.nodes.ok).1;unfold zU;rw[h];exact JG q.bp
theorem HE{s:bn}{st:cw}(q:bx s st):∀a∈st.ah,0<=a.bj/\a.bj<=1048576:=λa b=>by
 obtain ⟨j,d,P⟩:=q.cf.mem a b;have:=(q.bp.each j d).ok.id
 grind [eW.Eo]
theorem of_ok{s:bn}{st:cw}(d:lF s st)(q:bx s st):dz 5000 s st=some (.inr (st.aE.aq,st.aj,(st.ah.map λa=>(a.bj,a)),s.am,s.aG,s.aq,s.aR,s.ai.kN,s.ai.cK,s.ai.fB,s.ai.bI,s.bR,s.Mode,s.aj,s.jX,s.aF,s.bg,s.cX,s.In,s.Out,s.bQ,st.aX,st.Next,st.dV,st.az,st.nR,st.aE.am,s.aj,dj s.am st.ah)):=by
 have U:=d.bp;have W:=d.cf;have hn:=d.spec.nodes;have O:=d.cJ;have hu:=d.use;have hs:=d.stamps;obtain ⟨r,e,h⟩:=KX d;have n:=h.2 q;subst n;have X:=q.bp.len;have A:=AF q;unfold dz;rw[e,aD,if_neg (by simp),new_ok d.spec q.spec,aD];dsimp only;refine bL.eq ?_;refine ja st.aj.length (λi x=>x=((i:Int),st.aj.take i)) (λi x f g k n=>?_) (λx f k=>?_) rfl (by omega)
 ·subst k;simp only[cM g,if_true,bW g,Option.bind_some,bT (show i<1000000 by omega),put_ok g U q.bp.bV X (q.bp.each _ (bE g)).ok,yCg,bX,cn]
  simp_all
 ·subst k;simp only[eU,bX,cn];refine ja st.ah.length (TInv s st) (λi x f g k n=>?_) (λx f k=>?_) ⟨rfl,⟨_,by rw[yCh];exact q.cf⟩,rfl,q.spec.nodes.ok,rfl,rfl⟩ (by omega)
  ·obtain ⟨Y,F,M⟩:=x;obtain ⟨o,t,u,v,w,y⟩:=k;dsimp only at o t u v w y;subst o;have Q:=bE g;have E:=d.sh _ Q;obtain ⟨H,G⟩:=t;rw[yBF g] at G;obtain ⟨j,Z,P⟩:=q.cf.mem _ Q;have K:=(q.bp.each j Z).ok;have L:xD F st.ah[i]/\∃R,eO s st R (st.ah.drop (i+1)) (kP F st.ah[i]):=by
    cases H with
    |nil=>cases (show st.ah[i]::st.ah.drop (i+1)=[] from G)
    |cons j' R=>
     obtain ⟨a',A',e',-,hf,n⟩:=G
     grind
   have S:∀b∈st.ah.take i,b.bj≠st.ah[i].bj:=λb O=>by
    obtain ⟨m,N,rfl⟩:=km O;rw[BY] at N;rw[Ss];have:=yAZ.1 A m i (by grind) (by simp_all) (by omega)
    grind
   have T:uy M F st.ah[i]:=⟨by have:=K.id;have:=P.Eo;omega,RK (by have:=K.many;have:=P.qB.UP;omega),by rw[u];exact P.qB.shares,by rw[P.need];exact K.need,by grind [GB],L.1⟩;simp only[cM g,if_true,bW g,Option.bind_some,bT (show i<1000000 by omega)];refine (JE (M:=M) (a:=st.ah[i]) (F:=F) (by omega) E v).bind λr p=>?_;have z:=p.1.2 T;obtain ⟨eM,bh⟩:=p.2 z;rw[z];simp only[yCg,bX,cn];refine n _ ⟨rfl,?_,?_,?_,?_,?_⟩
   ·grind [rN.eq]
   ·grind [rN.eq,Zz]
   ·grind [rN.eq,uC]
   ·grind [XI,List.take_succ_eq_append_getElem]
   grind [rN.eq,List.take_succ_eq_append_getElem,dj.eq_1]
  ·obtain ⟨Y,F,M⟩:=x;obtain ⟨o,t,u,v,w,y⟩:=k;dsimp only at o t u v w y;subst o;simp only[eU,bX,cn];rw[show za1 5000 st.az=some st.az from Ft (by omega),aD,show zbi 5000 st.nR=some st.nR from Ft (by omega),aD,show zbi 5000 st.aE.aq=some st.aE.aq from Ft (by omega),aD,aY];rw[w,y,yh,yh];rfl
theorem of_no{s:bn}{st:cw}(a:lF s st)(q:¬bx s st):dz 5000 s st=some (.inl 2):=by
 obtain ⟨r,e,h⟩:=KX a;have:r=false:=by simp_all
 grind [Go.Abs.dz]
theorem shown{s:bn}{st:cw}(b:lF s st)(q:bx s st) :
  UU 5000 st.aE.aq st.aj (st.ah.map λa=>(a.bj,a)) st.aX st.Next st.dV st.az st.nR st.aE.am=some st:=by
 have d:=b.bp;have e:=b.cJ;have f:=b.use;have hs:=b.stamps;unfold UU;rw[MW (by omega) b.after,aD,show aU 5000 (st.ah.map λa=>(a.bj,a))=some st.ah from DG b.cf (AF q) (HE q) b.sh,aD,BD (by omega),aD,qN (by omega),aD,show zb4 5000 st.aE.aq=some st.aE.aq from Ft (by omega),aD]
theorem UJ{s:bn}{st:cw}(b:lF s st)(q:bx s st):ce 5000 s st=some (.inr (st.aE.aq,st.aj,(st.ah.map λa=>(a.bj,a)),true,s.am,s.aG,s.aq,s.aR,s.ai.kN,s.ai.cK,s.ai.fB,s.ai.bI,s.bR,s.Mode,s.aj,s.jX,s.aF,s.bg,s.cX,s.In,s.Out,s.bQ,st.aX,st.Next,st.dV,st.az,st.nR,st.aE.am,s.aj,dj s.am st.ah)):=by obtain ⟨r,d,h⟩:=Gs b;have e:=h.2 q;subst e;unfold ce;rw[of_ok b q,aD];dsimp only;rw[d,aD,if_neg (by simp),shown b q,aD,Ov b,aD]
theorem Ue{s:bn}{st:cw}(a:lF s st)(q:¬bx s st):ce 5000 s st=some (.inl true):=by
 obtain ⟨r,b,h⟩:=Gs a;have:r=false:=by simp_all
 grind [Go.Abs.ce,of_no]
theorem nh{s:bn}(hs:mY s) :
  zaM 5000 s.am s.aG s.aq s.aR s.ai.kN s.ai.cK s.ai.fB s.ai.bI s.bR s.Mode s.aj s.jX s.aF s.bg s.cX s.In s.Out s.bQ=some s:=by
 unfold zaM;rw[show zcT 5000 _=some s from CK hs];rfl
end Go.Plain
end
section
namespace Go.Plain
open Go.Abs
theorem vC{l:List Int}{n:Int}(h:mT l n):(l.length:Int)<=n∨l=[]:=by
 have a:∀i,i<l.length->(i:Int)<=l[i]!:=by
  intro i;induction i with
  |zero=>
   intro b;have:=(h 0 b).1
   grind [JZ]
  |succ i ih=>
   intro b;have d:=ih (by omega);have e:=(h (i+1) b).1
   grind [qw]
 cases f:l.length with
 |zero=>simp_all
 |succ m=>
  left;have d:=a m (by omega);have e:=(h m (by omega)).2
  grind
theorem fT{s:bn}(k:bm s):mY s:={
 nodes:=by have:=k.nodes.hi;omega
 parts:=by have:=k.parts.hi;omega
 gT:=by have:=k.gT.hi;omega
 part:=λp a=>by
  have b:=vC (k.parts.ok p a).2;have:=k.nodes.hi
  grind
 queue:=λq hq=>by
  have b:=vC (k.gT.ok q hq).Ae;have:=k.Ae
  grind }
theorem qR{l:List cW}{n:Int}(h:a_ l n)(hn:0<=n):(l.length:Int)<=n:=by
 rcases vC h.node with a | a
 ·simp_all
 simp_all
theorem zdg{s:bn}{st:cw}(q:bx s st):lF s st:={
 spec:=fT q.spec
 bp:=by have:=q.bp.len;have:=q.spec.bp;omega
 after:=λj b=>by have:=(q.bp.each j b).ok.mf;omega
 cf:=by have h:=(oP q.cf q.spec.nodes.ok).1;have d:=Ja List.length h;simp only[xw] at d;have f:(st.aj.filter sP).length<=st.aj.length:=List.length_filter_le _ _;have:=q.bp.len;have:=q.spec.bp;omega
 cJ:=by have:=q.kH.cJ.len;omega
 use:=by have:=q.use.len;have:=q.spec.Ae;omega
 stamps:=by have:=q.use.qlen;have:=q.spec.gT.hi;omega
 shares:=λa e=>by obtain ⟨j,b,P⟩:=q.cf.mem a e;have g:=qR P.qB.shares (by omega);have:=q.spec.nodes.hi;omega }
end Go.Plain
end
section
namespace Go.Plain
open Go.Abs
theorem Ur{u:Ba}{k t a:Int}(h:a<=t)(b:¬(a<u.bJ/\u.bJ<=t))(d:¬(a<u.To/\u.To<=t)):jN u k t=jN u k a:=by
 unfold jN
 grind
theorem IS{L:List Ba}{k t a:Int}(h:∀u∈L,jN u k t=jN u k a):aZ L k t=aZ L k a:=by
 unfold aZ;have:∀(M:List Ba)(r:aC),(∀u∈M,jN u k t=jN u k a)->M.foldl (λr u=>Bh r (jN u k t)) r=M.foldl (λr u=>Bh r (jN u k a)) r:=by
  intro M;induction M with
  |nil=>simp_all
  |cons u M ih=>simp_all
 simp_all
theorem Br{q:iE}{k t a:Int}(i:q.aX<=a)(h:a<=t)(e:∀x,q.aX<=x->timeV q x->¬(a<x/\x<=t)):bC q k t=bC q k a:=by
 have j:aZ q.L k t=aZ q.L k a:=IS λu f=>Ur h (λg=>e u.bJ (by omega) (.inr (.inl ⟨u,f,.inl rfl⟩)) g) λg=>e u.To (by omega) (.inr (.inl ⟨u,f,.inr rfl⟩)) g;have m:DW q.az k t↔DW q.az k a:=by
  constructor
  ·rintro ⟨b,d,h1,h2,h3⟩;refine ⟨b,d,h1,?_,by omega⟩;rcases yCk a b.bJ with g | g
   ·exact absurd ⟨g,h2⟩ (e b.bJ (by omega) (.inr (.inr ⟨b,d,.inl rfl⟩)))
   omega
  ·rintro ⟨b,d,h1,h2,h3⟩;refine ⟨b,d,h1,by omega,?_⟩;rcases yCk t b.To with g | g
   ·exact g
   ·exact absurd ⟨h3,g⟩ (e b.To (by omega) (.inr (.inr ⟨b,d,.inr rfl⟩)))
 unfold bC
 grind
theorem AN(T:List Int){a t:Int}(h:a<=t):∃x,(x=a∨x∈T)/\a<=x/\x<=t/\∀y∈T,y<=t->y<=x:=by
 induction T with
 |nil=>simp_all
 |cons y T ih=>grind
structure Gk (q:iE) (a b:Int) (F:List aC):Prop where
 len:F.length=q.S.am.length
 low:∀(k:Nat)(h:k<F.length),NU (λt v=>v=bC q k t) a b F[k]
structure jd (q:iE) (w:AI):Prop where
 part:0<=w.Part/\w.Part<q.S.aG.length
 many:w.aK<=100000
 need:aL w.ay
 uM:w.ay≠bN
 wall:1<=w.aW/\w.aW<=65536
def cz(q:iE)(w:AI):List Int:=(q.S.aG[w.Part.toNat]?).getD []
theorem jI{q:iE}{w:AI}(h:jd q w):aB q.S.aG w.Part=some (cz q w)/\cz q w∈q.S.aG:=by
 obtain ⟨a,e⟩:=FJ h.part.1 h.part.2;have:cz q w=q.S.aG[w.Part.toNat]:=by grind [cz]
 simp_all
def Yp(q:iE):Prop:=∀(k t:Int),0<=k->k<q.S.am.length->q.aX<=t->aL (bC q k t)
theorem Jb{V:Int->aC->Prop}{a b:Int}{r:aC}(h:NU V a b r)(d:∀t v,a<=t->V t v->aL v):aL r:=vB.2 λc=>by
 obtain ⟨t,v,f,g,i,e⟩:=h.cT c
 grind [vB]
theorem zP{F:List aC}{k:Nat}(h:k<F.length):kk F (k:Int)=F[k]:=by grind [kk]
theorem Ij{q:iE}(hq:qK q){w:AI}(b:jd q w){F:List aC}(f:F.length=q.S.am.length)(d:∀n∈cz q w,aL (kk F n)):pj F (cz q w):=by obtain ⟨_,a⟩:=jI b;have e:=hq.spec.parts.ok _ a;have hs:=(fT hq.spec).part _ a;refine ⟨by omega,λn hn=>?_,d⟩;have:=e.2.mem n hn;omega
theorem pf_when{q:iE}(hq:qK q)(P:Yp q){w:AI}(b:jd q w){t:Int}(h0:q.aX<=t)(ht:t<=1099511627776) :
  bL (T_ 5000 q w t) λr=>∃F,Gk q t (t+w.aW) F/\r=BU F (cz q w) w.aK w.ay:=by
 have nn:=hq.spec.nodes.hi;have Q:=hq.now;have wl:=b.wall;unfold T_;rw[if_neg (by have:=b.part;simp_all),wr (x:=t+w.aW) (by omega) (by omega)];refine (Kx hq).bind λT A=>?_;have tl:=A.len;refine ja q.S.am.length (λi x=>x.1=(i:Int)/\x.2.length=i/\∀(k:Nat)(h:k<x.2.length),NU (λt v=>v=bC q k t) t (t+w.aW) x.2[k]) (λi x f E a R=>?_) (λx f a=>?_) ⟨rfl,rfl,λk h=>by simp at h⟩ (by omega)
 ·obtain ⟨y,F⟩:=x;obtain ⟨rfl,d,m⟩:=a;dsimp only at d m ⊢;rw[if_pos (cM E)];refine (Rg hq E (by omega)).bind λr e=>?_;rw[e];refine ja T.length (λj x=>∃v:aC,x=((j:Int),v.bK,v.Mem,v.bM,v.bO)/\FH (bC q i t::((T.take j).filter λy=>decide (t<y/\y<t+w.aW)).map (bC q i)) v) (λj x S p a G=>?_) (λx S a=>?_) ⟨bC q i t,rfl,FH.one _⟩ (by omega)
  ·obtain ⟨v,rfl,o⟩:=a;simp only[fQ];rw[if_pos (cM p)];simp only[bW p,Option.bind_some];rw[bT (show j<1000000 by omega)];have O:(T.take (j+1)).filter (λy=>decide (t<y/\y<t+w.aW))=(T.take j).filter (λy=>decide (t<y/\y<t+w.aW))++(if t<T[j]/\T[j]<t+w.aW then [T[j]] else []):=by
    rw[Fc p,List.filter_append]
    grind
   have tm:=(A.mem T[j]).1 (bE p);by_cases g:t<T[j]
   ·rw[if_pos (by simp_all)];by_cases U:T[j]<t+w.aW
    ·rw[if_pos (by simp_all)];refine (Rg hq E (t:=T[j]) (by omega)).bind λs W=>?_;have K:zcG 5000 ({ bK:=v.bK,Mem:=v.Mem,bM:=v.bM,bO:=v.bO }:aC) s.1=some (uI v s.1):=Yo v s.1;rw[K,aD];rw[if_pos ⟨g,U⟩] at O;refine G _ ⟨uI v s.1,rfl,?_⟩;rw[O,yB8,<-List.cons_append,W];exact o.add _
    grind
   grind
  ·obtain ⟨v,rfl,o⟩:=a;dsimp only;rw[if_neg (by simp)];rw[yh] at o;have K:cr F ([({ bK:=v.bK,Mem:=v.Mem,bM:=v.bM,bO:=v.bO }:aC)]:List aC)=some (F++[v]):=Ap (by grind);rw[K,aD,bT (show i<1000000 by omega)];have low:NU (λt v=>v=bC q i t) t (t+w.aW) v:=by
    refine ⟨λu x X h2 e c=>?_,λc=>?_⟩
    ·obtain ⟨z,z1,z2,Y,Z⟩:=AN T X;have hc:bC q i u=bC q i z:=Br (by omega) Y λy L M N=>by
      have:=Z y ((A.mem y).2 ⟨L,M⟩) N.2;omega
     rw[e,hc];refine o.le _ ?_ c
     grind
    ·obtain ⟨x,a,e⟩:=o.cT c
     grind
   grind
 ·obtain ⟨y,F⟩:=x;obtain ⟨rfl,d,m⟩:=a;dsimp only at d m ⊢;obtain ⟨ep,hm⟩:=jI b;have hP:pj F (cz q w):=Ij hq b d λn hn=>by
   have kp:=(hq.spec.parts.ok _ hm).2.mem n hn;have e:kk F n=F[n.toNat]:=(yr kp.1 (by omega)).2.2;rw[e];exact Jb (m n.toNat (by omega)) λu x hu a=>by rw[a];exact P _ u (by omega) (by omega) (by omega)
  rw[if_neg (by simp),ep,aD,Wv hP b.need b.uM b.many,aD,aY];exact ⟨F,⟨d,m⟩,rfl⟩
structure PR (nodes:List (List bP)) (q:iE) (L:Nat):Prop where
 len:nodes.length=q.S.am.length
 cT:CJ nodes q.aX L
 val:∀(k:Nat)(h:k<nodes.length)(t:Int),q.aX<=t->ya nodes[k] t (bC q k t)
theorem PR.right{i:List (List bP)}{q:iE}{L:Nat}(h:PR i q L):Yp q:=λk t s hk o=>by
 have j:k.toNat<i.length:=by grind [PR.len]
 have:=(h.val k.toNat j t o).ok (h.cT.each _ j).1
 grind
theorem PR.iff{i:List (List bP)}{q:iE}{L:Nat}(h:PR i q L){k:Nat}(hk:k<i.length){t:Int}(j:q.aX<=t){v:aC}:ya i[k] t v↔v=bC q k t:=
 ⟨λo=>o.Bk (h.cT.each k hk).1 (h.val k hk t j),λe=>by rw[e];exact h.val k hk t j⟩
theorem Ji{b:List (List bP)}{q:iE}{L:Nat}(S:L<=900)(hq:qK q)(j:PR b q L){w:AI}(e:jd q w){t:Int}(T:q.aX<=t)(U:t<=1099511627776) :
  bL (zaJ 5000 b w.Part w.aK w.ay w.aW t q.aX q.S.aG) λr=>∃F,F.length=q.S.am.length/\(∀n∈cz q w,NU (λu v=>v=bC q n u) t (t+w.aW) (kk F n))/\r=BU F (cz q w) w.aK w.ay:=by
 have nn:=hq.spec.nodes.hi;have N:=hq.now;have W:=e.wall;obtain ⟨O,G⟩:=jI e;have z:=hq.spec.parts.ok _ G;have pl:=(fT hq.spec).part _ G;have P:=j.right;unfold zaJ;rw[if_neg (by have:=e.part;simp_all),wr (x:=t+w.aW) (by omega) (by omega),YA _ (by grind [PR.len]),aD,O,aD];have K:=j.len;refine ja (cz q w).length (λi x=>x.1=(i:Int)/\x.2.length=b.length/\∀n∈(cz q w).take i,NU (λu v=>v=bC q n u) t (t+w.aW) (kk x.2 n)) (λi x f p m A=>?_) (λx f m=>?_) ⟨rfl,by simp,λn h=>by simp at h⟩ (by omega)
 ·obtain ⟨y,F⟩:=x;obtain ⟨rfl,s,o⟩:=m;dsimp only at s o ⊢;have hn:=z.2.mem _ (bE p);obtain ⟨k,Q⟩:∃k:Nat,(cz q w)[i]=(k:Int):=⟨((cz q w)[i]).toNat,by omega⟩;have hk:k<b.length:=by omega
  obtain ⟨M,lk⟩:=j.cT.each k hk;have f0:=j.cT.first k hk M.ne;rw[if_pos (cM p),bW p,aD,Q,bW hk,aD];refine (Kw (by omega) M (a:=t) (by omega) (show t<t+w.aW by omega)).bind λr E=>?_;rw[bW (show k<F.length by omega),aD,bT (show i<1000000 by omega),xAc];refine A _ ⟨rfl,by simp[s],λn d=>?_⟩;have low:NU (λu v=>v=bC q k u) t (t+w.aW) r:=E.iff λu v R=>j.iff hk (by omega);dsimp only;by_cases g:n=(k:Int)
  ·grind [zP]
  ·have:kk (F.set k r) n=kk F n∨n<0:=by
    grind [kk]
   rw[Fc p,mQ,Bl] at d;rcases d with d | d
   ·have nb:=z.2.mem n (NP d)
    grind
   omega
 ·obtain ⟨y,F⟩:=x;obtain ⟨rfl,s,o⟩:=m;dsimp only at s o ⊢;rw[yh] at o;have hP:pj F (cz q w):=Ij hq e (by omega) λn hn=>by
   have nb:=z.2.mem n hn;exact Jb (o n hn) λu x R m=>by rw[m];exact P n u (by omega) (by omega) (by omega)
  rw[if_neg (by simp),aD,XD hP e.need e.uM e.many,aD,aY]
  grind
theorem CO{a:List (List bP)}{q:iE}{L:Nat}(s:L<=900)(hq:qK q)(g:PR a q L){w:AI}(d:jd q w){t:Int}(h:q.aX<=t)(i:t<=1099511627776) :
  ∃F,Gk q t (t+w.aW) F/\pj F (cz q w)/\zaJ 5000 a w.Part w.aK w.ay w.aW t q.aX q.S.aG=some (BU F (cz q w) w.aK w.ay)/\T_ 5000 q w t=some (BU F (cz q w) w.aK w.ay):=by
 have j:=g.right;have v:=hq.now;obtain ⟨r,e,F,f,rfl⟩:=pf_when hq j d h i;obtain ⟨K,k,G,M,b,rfl⟩:=Ji s hq g d h i;obtain ⟨N,y⟩:=jI d;have m:=hq.spec.parts.ok _ y;have o:∀n∈cz q w,kk G n=kk F n:=λn hn=>by have nb:=m.2.mem n hn;obtain ⟨z,_,A⟩:=yr (F:=F) nb.1 (by grind [Gk.len]);have p:=f.low n.toNat z;rw[yBX nb.1] at p;rw[A];exact (b n hn).Bk p
 rw[IM o] at k;refine ⟨F,f,Ij hq d f.len λn hn=>?_,k,e⟩;have nb:=m.2.mem n hn;rw[<-o n hn];exact Jb (b n hn) λu x O E=>by rw[E];exact j n u (by omega) (by omega) (by omega)
end Go.Plain
end
