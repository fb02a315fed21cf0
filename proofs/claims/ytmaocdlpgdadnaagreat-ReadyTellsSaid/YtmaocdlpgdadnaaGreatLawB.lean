/- TyR4, TyP6, TyP7, TyP8, TyP9, TyPA, TyPB, TyPC, TyPD -/
import Derived.Test.YtmaocdlpgdadnaaGreatLawA
set_option linter.all false
section
namespace Go.Plain
open Go.Abs
theorem mn{X R:Type}{b:(X->Option R)->X->Option R}{Q:R->Prop}{n:Nat}{x:X}(a:0<n)(h:∀f,f=bg b (n-1)->bp (b f x) Q):bp (bg b n x) Q:=by obtain ⟨k,rfl⟩:∃k,n=k+1:=⟨n-1,by omega⟩;exact h _ rfl
theorem Ht{p:List K3}{N:Nat}{P A S:List Int}{a E:Int}(ha:a=P.length)(hE:E=P.length+A.length)(hN:1100<=N)(hl:(P++A++S).length<=1000)(t:∀x∈P++A++S,IZ p x) :
  bp (bg (λf8 (F : Int × List Int)=>
         if (decide (F.1<E))=true then
          bg (λZ (d:Int×List Int)=>
           jn (λ(ad:Bool)=>
            if ad=true then
             (au d.2 (IntKind.i64.wrap (d.1-1))).bind λG=>
             (au d.2 d.1).bind λaf=>
             (au d.2 d.1).bind λa5=>
             (au (d.2.set d.1.toNat G) (IntKind.i64.wrap (d.1-1))).bind λa6=>
             Z ((IntKind.i64.wrap (d.1-1)),((d.2.set d.1.toNat G).set (IntKind.i64.wrap (d.1-1)).toNat af))
            else
             f8 ((IntKind.i64.wrap (F.1+1)),d.2)) λK=>
           if (decide (d.1 > a))=true then
           (au d.2 d.1).bind λak=>
           (au d.2 (IntKind.i64.wrap (d.1-1))).bind λax=>
           (
            (au p ak).bind λn=>
            (au p ax).bind λo=>
            (QC N ([n.1,n.2.1,n.2.2]:List Int) ([o.1,o.2.1,o.2.2]:List Int)).bind λa0=>
            some a0).bind λa1=>
           K (decide (a1<0))
           else
           K false) N (F.1,F.2)
         else
          some F.2) N ((IntKind.i64.wrap (a+1)),P++A++S)) λr=>∃C,r=P++C++S/\C.Perm A/\sM p C:=by
 have a2:=hl;simp only[vU] at a2;rw[ui (x:=a+1) (y:=a+1) rfl (by omega) (by omega)];refine QO (I:=λx=>∃C T,x.2=P++C++T++S/\(C++T).Perm A/\sM p C/\x.1=a+(if A=[] then 1 else (C.length:Int))/\(A≠[]->0<C.length)) (m:=λx=>(E+1-x.1).toNat) (λx f hI hr=>?_) ?_ (by simp;omega)
 ·obtain ⟨i,row⟩:=x;obtain ⟨C,T,rfl,W,hs,X,h0⟩:=hI;simp only at X hr ⊢;have j:=W.length_eq;simp only[vU] at j;by_cases Y:A=[]
  ·subst Y;simp only[if_true,List.length_nil] at X j hE;rw[if_neg (by simp;omega),aP];have hC:C=[]:=by rw[<-QJ];omega
   have hT:T=[]:=by rw[<-QJ];omega
   subst hC hT;exact ⟨[],by simp,.refl _,hs⟩
  ·rw[if_neg Y] at X;have a7:=h0 Y;cases T with
   |nil=>simp only[List.length_nil] at j;rw[if_neg (by simp;omega),aP];exact ⟨C,by simp,by simpa using W,hs⟩
   |cons y T=>
    simp only[List.length_cons] at j;rw[if_pos (by simp;omega)];refine QO (I:=λz=>∃U V,z=(a+(U.length:Int),P++U++y::(V++T++S))/\U++V=C/\∀v∈V,vf p y v) (m:=λz=>(z.1-a).toNat) (λz g hz a3=>?_) ⟨C,[],by rw[X];simp,by simp,by simp⟩ (by simp;omega);obtain ⟨U,V,rfl,e,L⟩:=hz;have q:=Dj List.length e;simp only[vU] at q;have s:∀x∈P++U++y::(V++T++S),IZ p x:=λx M=>t x (by
     simp only[uQ,dO] at M ⊢;have l:x∈U∨x∈V∨x=y∨x∈T->x∈A:=λh=>W.mem_iff.1 (by
      rw[<-e];simp only[uQ,dO];rcases h with h | h | h | h
      ·exact .inl (.inl h)
      ·exact .inl (.inr h)
      ·exact .inr (.inl h)
      ·exact .inr (.inr h))
     rcases M with (h | h) | h | (h | h) | h
     ·exact .inl (.inl h)
     ·exact .inl (.inr (l (.inl h)))
     ·exact .inl (.inr (l (.inr (.inr (.inl h)))))
     ·exact .inl (.inr (l (.inr (.inl h))))
     ·exact .inl (.inr (l (.inr (.inr (.inr h)))))
     ·exact .inr h)
    have done:(∀u∈U,vf p u y)->bp (f (IntKind.i64.wrap (i+1),P++U++y::(V++T++S))) (λr=>∃C,r=P++C++S/\C.Perm A/\sM p C):=λhu=>by
     rw[ui (x:=i+1) rfl (by omega) (by omega)];refine hr _ ⟨U++y::V,T,by simp,?_,?_,?_,λ_=>by simp;omega⟩ (by simp;omega)
     ·refine List.Perm.trans ?_ W;rw[<-e];have:(U++y::V).Perm (U++V++[y]):=by
       rw[tD];exact yBI _ (yBJ (l₁:=[y]))
      have:=this.append_right T;simpa using this
     ·have O:=Mb.1 (e▸hs:sM p (U++V));refine Mb.2 ⟨O.1,yBW.2 ⟨L,O.2.1⟩,λu h v t=>?_⟩;rcases dO.1 t with rfl | t
      ·exact hu u h
      ·exact O.2.2 u h v t
     ·rw[if_neg Y];simp;omega
    refine vC (λx=>(x=true->∃b v,U=b++[v]/\vf p y v)/\(x=false->∀u∈U,vf p u y)) (λk hk=>?_) (λx M=>?_)
    ·rw[aR];refine ⟨λh=>?_,λh=>hk _ ⟨by simp,λ_ u hu=>?_⟩⟩
     ·simp at h;rcases List.eq_nil_or_concat U with rfl | ⟨b,v,rfl⟩
      ·simp at h
      simp only[yBH] at s hk h ⊢;simp only[yBH,vU,List.length_cons,List.length_nil] at q;have w:IntKind.i64.wrap (a+((b++[v]).length:Nat)-1)=((P++b).length:Nat):=ui (by simp;omega) (by simp;omega) (by simp;omega);have e1:P++(b++[v])++y::(V++T++S)=(P++b)++v::(y::(V++T++S)):=by simp
      rw[w,cJ (by simp;omega),aF,show au (P++(b++[v])++y::(V++T++S)) ((P++b).length:Nat)=some v from by rw[e1];exact cJ rfl,aF];refine (wR (by omega) (s y (by simp)) (s v (by simp))).bind λr Q=>hk _ ⟨λh=>⟨b,v,rfl,(Q.1 (by simpa using h)).le⟩,λh u hu=>?_⟩;have R:vf p v y:=λg=>by have:=Q.2 g;simp at h;omega
      simp only[yBH] at e;have O:=Mb.1 (e▸hs:sM p ((b++[v])++V));have h2:=Mb.1 O.1;rcases uQ.1 hu with hu | hu
      ·exact (h2.2.2 u hu v (by simp)).trans R
      ·simp at hu;subst hu;exact R
     ·simp at h;have:U=[]:=by rw[<-QJ];omega
      subst this;simp at hu
    ·rw[aR];refine ⟨λh=>?_,λh=>done (M.2 (by simpa using h))⟩;obtain ⟨b,v,rfl,a4⟩:=M.1 h;simp only[vU,List.length_cons,List.length_nil] at q;have w:IntKind.i64.wrap (a+((b++[v]).length:Nat)-1)=((P++b).length:Nat):=ui (by simp;omega) (by simp;omega) (by simp;omega);have e1:P++(b++[v])++y::(V++T++S)=(P++b)++v::(y::(V++T++S)):=by simp
     have e3:P++(b++[v])++v::(V++T++S)=(P++b)++v::(v::(V++T++S)):=by simp
     simp only;rw[w,show au (P++(b++[v])++y::(V++T++S)) ((P++b).length:Nat)=some v from by rw[e1];exact cJ rfl,aF,cJ (by simp;omega),aF,aF,gF (by simp;omega),e3,cJ (by simp),aF,gF (by simp)];refine a3 _ ⟨b,v::V,by simp;omega,by rw[<-e];simp,λu hu=>?_⟩ (by simp;omega);rcases dO.1 hu with rfl | hu
     ·exact a4
     ·exact L u hu
 ·refine ⟨A.take 1,A.drop 1,by simp only[tD];rw[<-tD (A.take 1),Hi],by rw[Hi],?_,?_,?_⟩
  ·cases A with
   |nil=>exact .nil
   |cons=>simp[sM]
  ·cases A <;> simp
  ·intro (h:A≠[]);have:=Me.2 h;simp;omega
def KI(n:Nat):List Int:=(List.range n).map λ(i:Nat)=>(i:Int)
theorem mH(n:Nat):(KI n).length=n:=by simp[KI]
theorem RY{n i:Nat}(h:i<n):(KI n)[i]'(by rw[mH];exact h)=(i:Int):=by simp[KI]
theorem IG{p:List K3}{x:Int}(h:x∈KI p.length):IZ p x:=by simp only[KI,gZ,Zb] at h;obtain ⟨i,a,rfl⟩:=h;exact ⟨by omega,by omega⟩
theorem IL{α:Type}{z:α}{n:Nat}(h:n<=1000):Ms z (n:Int) (n:Int)=some (List.replicate n z):=by unfold Ms;simp;omega
theorem Gh{N:Nat}{p:List K3}(hp:p.length<40)(hN:2000<=N):bp (zdx N p) λr=>r.Perm (KI p.length)/\sM p r:=by
 unfold zdx;rw[IL (by omega),aF];refine uP p.length (λi x=>x=((i:Int),(KI p.length).take i++List.replicate (p.length-i) 0)) (λi x f M l b=>?_) (λx f l=>?_) (by simp) (by omega)
 ·subst l;have O:((KI p.length).take i).length=i:=by simp[mH];omega
  have e:List.replicate (p.length-i) (0:Int)=0::List.replicate (p.length-(i+1)) 0:=by rw[show p.length-i=(p.length-(i+1))+1 by omega,List.replicate_succ]
  simp only;rw[if_pos (by simp;omega),e,cJ (by rw[O]),aF,gF (by rw[O]),bF (by omega)];refine b _ (by rw[Yi,cE (by rw[mH];exact M),RY M];simp)
 ·subst l;rw[Za (by rw[mH];exact bQ _),YH,List.replicate_zero,DA];simp only;rw[if_neg (by simp),mH];generalize l:KI p.length=x;have t:x.length=p.length:=by rw[<-l,mH]
  have d:∀a∈x,IZ p a:=λa g=>IG (by rw[l];exact g)
  suffices key:∀o:Option (List Int),(bp o λr=>r.Perm x/\sM p r)->bp ((o.bind λu=>some u).bind λn=>Dz p.length n.length<|some n) λr=>r.Perm x/\sM p r by
   refine key _ ?_;have v:IntKind.i64.wrap (20+20)=40:=rfl;have w:IntKind.i64.wrap (2 * 20)=40:=rfl;have y:IntKind.i64.wrap (20 * 2)=40:=rfl;have z:IntKind.i64.wrap (0+20)=20:=rfl;by_cases ad:p.length<20
   ·refine mn (by omega) λf s=>?_;simp only;rw[if_neg (by simp;omega)];have Q:=Ht (p:=p) (N:=N) (P:=[]) (A:=x) (S:=[]) (a:=0) (E:=p.length) rfl (by simp;omega) (by omega) (by simp;omega) (by simpa using d);rw[QF,DA] at Q;refine Q.bind λr b=>?_;obtain ⟨C,rfl,h,m⟩:=b;rw[mL (by simpa using h.length_eq.symm)];refine mn (by omega) λf s=>?_;rw[if_neg (by simp;omega),aP];exact ⟨by simpa using h,by simpa using m⟩
   ·refine mn (by omega) λf s=>?_;simp only;have q:x=x.take 20++x.drop 20:=(Hi _ _).symm;have R:(x.take 20).length=20:=by simp;omega
    have T:(x.drop 20).length=p.length-20:=by simp;omega
    rw[if_pos (by simp;omega)];have U:=Ht (p:=p) (N:=N) (P:=[]) (A:=x.take 20) (S:=x.drop 20) (a:=0) (E:=20) rfl (by rw[R];simp) (by omega) (by simp;omega) (by simpa using d);rw[QF,<-q] at U;refine U.bind λr b=>?_;obtain ⟨C,rfl,h,m⟩:=b;have F:C.length=20:=by rw[h.length_eq,R]
    rw[QF,mL (by simp;omega),v,s];refine mn (by omega) λf s=>?_;simp only;rw[if_neg (by simp;omega)];have K:∀a∈C++x.drop 20,IZ p a:=λa g=>d a (by
     rcases uQ.1 g with g | g
     ·exact KZ (h.mem_iff.1 g)
     ·exact WN g)
    have W:=Ht (p:=p) (N:=N) (P:=C) (A:=x.drop 20) (S:=[]) (a:=20) (E:=p.length) (by rw[F];rfl) (by rw[F,T];omega) (by omega) (by simp;omega) (by simpa using K);rw[DA] at W;refine W.bind λr b=>?_;obtain ⟨D,rfl,X,h4⟩:=b;have lD:D.length=p.length-20:=by rw[X.length_eq,T]
    have j:(C++D).Perm x:=by rw[q];exact List.Perm.append h X
    rw[DA,mL (by simp;omega)];refine mn (by omega) λf2 L=>?_;simp only;by_cases af:p.length=20
    ·rw[if_neg (by simp;omega),aP];have:D=[]:=by rw[<-QJ];omega
     subst this;exact ⟨j,by simpa using m⟩
    ·rw[if_pos (by simp;omega),w];refine mn (by omega) λf3 ak=>?_;simp only;rw[if_neg (by simp;omega),z];refine vC (λr=>r.Perm x/\sM p r) (λk hk=>?_) (λr b=>?_)
     ·rw[if_pos (by simp;omega)];have Y:=Ea (p:=p) N [] C D [] 0 20 p.length (by rw[<-Me];omega) (by rw[<-Me];omega) (by simp;omega) (λa g=>d a (j.mem_iff.1 (by simpa using g))) (by omega) rfl (by rw[F];rfl) (by simp;omega);rw[QF,DA] at Y;refine Y.bind λr b=>?_;obtain ⟨G,rfl,Z,h6⟩:=b;have lG:=Z.length_eq;rw[mL (by simp at lG ⊢;omega)];exact hk _ ⟨by simpa using Z.trans j,by simpa using h6 m h4⟩
     ·rw[y,L];refine mn (by omega) λf4 ax=>?_;simp only;rw[if_neg (by simp;omega),aP];exact b
  intro o ⟨r,ho,h,m⟩;rw[ho,aF,aF,mL (by rw[h.length_eq,t])];exact aP.2 ⟨h,m⟩
end Go.Plain
end
section
namespace Go.Plain
open Go.Abs
def cmp:Nat->aN->Int
 |0,r=>r.cj
 |1,r=>r.Mem
 |2,r=>r.cA
 |_,r=>r.cC
theorem dE{r:aN}:bo r↔∀c,0<=cmp c r/\cmp c r<=1048576:=by
 constructor
 ·intro h c
  match c with
  |0=>exact h.B_
  |1=>exact h.mem
  |2=>exact h.Ew
  |_+3=>exact h.F_
 ·intro h;exact ⟨h 0,h 1,h 2,h 3⟩
theorem JF{a b:aN}(h:∀c,cmp c a=cmp c b):a=b:=by obtain ⟨i,j,k,l⟩:=a;obtain ⟨m,n,o,p⟩:=b;have d:=h 0;have e:=h 1;have f:=h 2;have g:=h 3;simp only[cmp] at d e f g;subst d e f g;rfl
def KN(a b:aN):aN:={ cj:=a.cj-b.cj,Mem:=a.Mem-b.Mem,cA:=a.cA-b.cA,cC:=a.cC-b.cC }
def mulR(n:Int)(a:aN):aN:={ cj:=n * a.cj,Mem:=n * a.Mem,cA:=n * a.cA,cC:=n * a.cC }
theorem gD(c:Nat)(a b:aN):cmp c (KN a b)=cmp c a-cmp c b:=by match c with | 0=>rfl | 1=>rfl | 2=>rfl | _+3=>rfl
theorem fE(c:Nat)(n:Int)(a:aN):cmp c (mulR n a)=n * cmp c a:=by match c with | 0=>rfl | 1=>rfl | 2=>rfl | _+3=>rfl
theorem wW{a:Int}(h:a.natAbs<2 ^ 53):uk a=some a:=by unfold uk;rw[if_pos h]
theorem Ao{a b c d:Int}(g:a.natAbs<2 ^ 53)(i:b.natAbs<2 ^ 53)(j:c.natAbs<2 ^ 53)(hd:d.natAbs<2 ^ 53) :
  bp (zct 5000 (a,b) (c,d)) λr=>(r.2=0↔bo ⟨a,b,c,d⟩)/\(r.2=0->r.1=⟨a,b,c,d⟩):=by
 simp only[zct,jC,wW g,wW i,wW j,wW hd,Option.bind_some];refine (dj _).bind λr f=>?_;simp only[aR,aP,fJ,kO];refine ⟨λe=>⟨⟨λh=>by omega,λv=>by have:=f.2 v;rw[e] at this;cases this⟩,λh=>by omega⟩,λe=>⟨⟨λ_=>f.1 e,λ_=>trivial⟩,λ_=>trivial⟩⟩
theorem jq{n x:Int}(a:0<=n/\n<=64)(b:0<=x/\x<=1048576):0<=n * x/\n * x<=67108864:=by have d:0<=n * x:=Ys a.1 b.1;have e:n * x<=64 * x:=YG a.2 b.1;omega
theorem NW{a:aN}{n:Int}(b:bo a)(l:1<=n/\n<=64):bp (qn 5000 a n) λr=>(r.2=0↔bo (mulR n a))/\(r.2=0->r.1=mulR n a):=by
 simp only[qn];obtain ⟨m,g,i⟩:=dj a;have j:=i.2 b;subst j;have d:0<=n/\n<=64:=by omega
 simp only[g,Option.bind_some,Dm,yCf];rw[if_neg (by simp;omega)];by_cases f:a=cw
 ·subst f;rw[if_pos (by exact gz.2 rfl),aP];have:mulR n cw=cw:=by simp[mulR,cw]
  rw[this];exact ⟨⟨λ_=>⟨by simp[cw],by simp[cw],by simp[cw],by simp[cw]⟩,λ_=>rfl⟩,λ_=>rfl⟩
 ·rw[if_neg (show ¬(aN.beq a ({ cj:=0,Mem:=0,cA:=0,cC:=0 }:aN)=true) from λh=>f (gz.1 h)),if_neg (by simp;omega)];have e:∀{x:Int},0<=x/\x<=1048576->r_ x n=some (x * n):=λ{x} o=>by unfold r_;rw[if_pos (by omega)]
  have p:=jq d b.B_;have q:=jq d b.mem;have s:=jq d b.Ew;have t:=jq d b.F_;simp only[XX,Option.bind_some,e b.B_,e b.mem,e b.Ew,e b.F_];rw[Int.mul_comm a.cj n,Int.mul_comm a.Mem n,Int.mul_comm a.cA n,Int.mul_comm a.cC n];refine (Ao (by omega) (by omega) (by omega) (by omega)).bind λr k=>?_;rw[aP];exact k
theorem VG{a b:aN}(d:bo a)(e:bo b):bp (xk 5000 a b) λr=>(r.2=0↔bo (KN a b))/\(r.2=0->r.1=KN a b):=by
 simp only[xk,kh];obtain ⟨n,g,h⟩:=dj a;have i:=h.2 d;subst i;obtain ⟨o,j,k⟩:=dj b;have l:=k.2 e;subst l;have f:∀{x y:Int},0<=x/\x<=1048576->0<=y/\y<=1048576->rV x y=some (x-y):=λ{x y} p q=>by unfold rV;rw[if_pos (by omega)]
 simp only[g,j,Option.bind_some,Dm,aV,bm,XX,f d.B_ e.B_,f d.mem e.mem,f d.Ew e.Ew,f d.F_ e.F_];have:=d.B_;have:=d.mem;have:=d.Ew;have:=d.F_;have:=e.B_;have:=e.mem;have:=e.Ew;have:=e.F_;refine (Ao (by omega) (by omega) (by omega) (by omega)).bind λr m=>?_;rw[aP];exact m
def ja(l:List jY)(i:Int):Int:=(l.map λx=>if x.Node=i then x.aZ else 0).sum
theorem tK{l:List jY}{k:Nat}(h:k<l.length)(i:Int):ja (l.take (k+1)) i=ja (l.take k) i+if l[k].Node=i then l[k].aZ else 0:=by rw[RW h];simp only[ja,YI,mb,Yo,List.sum_append,List.sum_cons,List.sum_nil];omega
theorem yH{l:List jY}(h:∀x∈l,0<=x.aZ)(i:Int):0<=ja l i:=by
 induction l with
 |nil=>simp[ja]
 |cons x l ih=>have:=ih λy a=>h y (kE _ a);have:=h x (li ..);simp only[ja,mb,List.sum_cons] at *;split <;> omega
theorem Sw{l m:List jY}(i:Int):ja (l++m) i=ja l i+ja m i:=by simp[ja]
theorem Py{l:List jY}(h:∀x∈l,0<=x.aZ)(k:Nat)(i:Int):ja (l.take k) i<=ja l i:=by have:=Sw (l:=l.take k) (m:=l.drop k) i;rw[Hi] at this;have:=yH (l:=l.drop k) (λx a=>h x (WN a)) i;omega
theorem Cb{l:List jY}{n:Int}(h:bB l n)(i:Int):0<=ja l i/\ja l i<=64:=by
 refine ⟨yH (λx f=>by have:=h.mem x f;omega) i,?_⟩;have b:∀k,k<=l.length->(ja (l.take k) i<=64/\(ja (l.take k) i≠0->i<=GO (l.map (·.Node)) k)):=by
  intro k;induction k with
  |zero=>intro _;simp[ja]
  |succ k ih=>
   intro hk;obtain ⟨g,d⟩:=ih (by omega);have s:=h k (by omega);have s1:=s.up;have j:=s.lt;have m:=s.lo;have o:=s.hi;rw[tK (by omega),xu (show k<l.length by omega)];split
   ·rename_i e;by_cases a:ja (l.take k) i=0
    ·rw[a];omega
    ·have:=d a;omega
   ·rename_i e;rw[Int.add_zero];exact ⟨g,λa=>by have:=d a;omega⟩
 have:=(b l.length (bQ _)).1
 rwa [Mw] at this
theorem NG{l:List jY}{n:Int}(m:l.length<=300)(h:bB l n)(i:Int):zc0 5000 l i=some (ja l i):=by
 simp only[zc0,kh];refine bp.eq (uP l.length (λk x=>x=(ja (l.take k) i,(k:Int))) (λk x f d a j=>?_) (λx f a=>?_) (by simp[ja]) (by omega))
 ·subst a;have q:=h.mem _ (bZ d);have b:=yH (l:=l.take k) (λx a=>by have:=h.mem x (KZ a);omega) i;have o:=Py (λx a=>by have:=h.mem x a;omega) k i;have p:=Cb h i;have e:=tK d i;simp only[cG d,if_true,bY d,Option.bind_some,bF (show k<1000000 by omega),aR,oQ];refine ⟨λg=>?_,λg=>j _ ?_⟩
  ·rw[if_pos g] at e;rw[wr (by omega) (by omega)];exact j _ (by rw[e])
  ·rw[if_neg g] at e;rw[e,Int.add_zero]
 ·subst a;simp only[c_,aV,bm,aP,Mw]
def vQ(a:cn)(i:Nat)(r:aN):aN:=KN r (mulR (ja a.aq i) a.aJ)
def wj(F:List aN)(a:cn):Prop:=∀i (h:i<F.length),bo (vQ a i F[i])
structure xL (F:List aN) (a:cn) (G:List aN):Prop where
 len:G.length=F.length
 zt:∀i (h:i<G.length),G[i]=vQ a i (F[i]'(by rw[<-len];exact h))
theorem Kp{a:cn}{F:List aN}(hF:F.length<=300)(hl:a.aq.length<=300)(P:bB a.aq F.length)(A:bo a.aJ)(S:∀r∈F,bo r) :
  bp (za9 5000 a F) λr=>(r.2=0↔wj F a)/\(r.2=0->xL F a r.1):=by
 simp only[za9,zaY,FZ (show F.length<=1000000 by omega),Option.bind_some];have nn:∀x∈a.aq,0<=x.aZ:=λx p=>by have:=P.mem x p;omega
 refine uP a.aq.length (λk x=>x.1=(k:Int)/\x.2.length=F.length/\(∀r∈x.2,bo r)/\∀i (h:i<x.2.length) (j:i<F.length),x.2[i]=KN F[i] (mulR (ja (a.aq.take k) i) a.aJ)) (λk x f hk p T=>?_) (λx f p=>?_) ⟨rfl,rfl,S,λi h j=>?_⟩ (by omega)
 ·obtain ⟨U,G⟩:=x;obtain ⟨rfl,b,d,g⟩:=p;dsimp only at b d g ⊢;have q:=P.mem _ (bZ hk);have E:a.aq[k].Node.toNat<G.length:=by omega
  have w:a.aq[k].Node.toNat<F.length:=by omega
  have K:((a.aq[k].Node.toNat:Nat):Int)=a.aq[k].Node:=by omega
  have W:=tK hk a.aq[k].Node;rw[if_pos rfl] at W;have le:=Py nn (k+1) a.aq[k].Node;have n0:=yH (l:=a.aq.take k) (λx p=>nn x (KZ p)) a.aq[k].Node;have L:=g _ E w;rw[K] at L;have bad:(∃c,cmp c G[a.aq[k].Node.toNat]-a.aq[k].aZ * cmp c a.aJ<0)->¬wj F a:=λ⟨c,y⟩ z=>by have M:=dE.1 (z _ w) c;rw[vQ,gD,fE,K] at M;rw[L,gD,fE] at y;have s:0<=cmp c a.aJ:=(dE.1 A c).1;have X:(ja (a.aq.take k) a.aq[k].Node+a.aq[k].aZ) * cmp c a.aJ<=ja a.aq a.aq[k].Node * cmp c a.aJ:=YG (by omega) s;rw[Int.add_mul] at X;omega
  simp only[cG hk,if_true,bY hk,Option.bind_some,bF (show k<1000000 by omega)];refine (NW A q.2.2).bind λr t=>?_;simp only[aR,aP,zC,ne_eq,KM];refine ⟨λh=>⟨⟨λj=>absurd j h,λz=>?_⟩,λj=>absurd j h⟩,λh=>?_⟩
  ·exfalso;refine bad ?_ z;have m:¬bo (mulR a.aq[k].aZ a.aJ):=λv=>h (t.1.2 v);rw[dE] at m;obtain ⟨c,y⟩:=Classical.not_forall.1 m;refine ⟨c,?_⟩;rw[fE] at y;have M:=jq (show 0<=a.aq[k].aZ/\a.aq[k].aZ<=64 by omega) (dE.1 A c);have s:=dE.1 (d _ (bZ E)) c;omega
  ·have Y:=t.2 h;have Z:=t.1.1 h;obtain ⟨ad,e⟩:=cS (l:=G) (x:=a.aq[k].Node) (by omega) (by omega);rw[e,aF,Y];refine (VG (d _ (bZ E)) Z).bind λr2 u=>?_;simp only[Option.bind_some,aR,aP,zC,ne_eq,KM];refine ⟨λj=>⟨⟨λs=>absurd s j,λz=>?_⟩,λs=>absurd s j⟩,λj=>?_⟩
   ·exfalso;refine bad ?_ z;have m:¬bo (KN G[a.aq[k].Node.toNat] (mulR a.aq[k].aZ a.aJ)):=λv=>j (u.1.2 v);rw[dE] at m;obtain ⟨c,y⟩:=Classical.not_forall.1 m;refine ⟨c,?_⟩;rw[gD,fE] at y;have M:=jq (show 0<=a.aq[k].aZ/\a.aq[k].aZ<=64 by omega) (dE.1 A c);have s:=dE.1 (d _ (bZ E)) c;omega
   ·have Q:=u.2 j;have v2:=u.1.1 j;refine T _ ⟨rfl,by simpa using b,λr n=>?_,λi N O=>?_⟩
    ·dsimp only at n;rcases yBN n with n | rfl
     ·exact d r n
     ·rw[Q];exact v2
    ·dsimp only at N ⊢;rw[Vn] at N;rw[List.getElem_set];have o:=tK hk (i:Int);split
     ·rename_i R;subst R;rw[Q,L];rw[if_pos K.symm] at o;rw[o];refine JF λc=>?_;rw[gD,gD,gD,fE,fE,fE,Int.add_mul,K];omega
     ·rename_i R;rw[if_neg (by omega),Int.add_zero] at o;rw[g i N O,o]
 ·obtain ⟨U,G⟩:=x;obtain ⟨rfl,b,d,g⟩:=p;dsimp only at b d g ⊢;simp only[c_,aV,bm,aP,Mw,Hp,true_implies] at g ⊢;refine ⟨λi h=>?_,b,λi h=>g i h (by omega)⟩;have:=d _ (bZ (show i<G.length by omega));rw[g i (by omega) h] at this;exact this
 ·refine JF λc=>?_;rw[gD,fE];simp[ja]
theorem Az{a:cn}(h:a.aq.length<=1000000):gn 5000 a=some a:=by simp only[gn,za2,FZ h,Option.bind_some]
structure Hv (M:List (Int×cn)) (F:List aN) (a:cn):Prop where
 EU:1<=a.bz/\a.bz<=1048576
 MH:a.aq≠[]
 shares:bB a.aq F.length
 cO:bo a.aJ
 free:cq M a.bz=none
 fits:wj F a
theorem IE{M:List (Int×cn)}{a:cn}{F:List aN}(k:F.length<=300)(f:a.aq.length<=300)(l:∀r∈F,bo r) :
  bp (ZG 5000 M a F) λr=>(r.2.1=0↔Hv M F a)/\(r.2.1=0->r.1=kj M a.bz a/\xL F a r.2.2):=by
 simp only[ZG,kh,if_true,aV,bm];have no:∀{p:Prop}{x:List (Int×cn)×Int×List aN}{q:Prop},¬p->x.2.1≠0->bp (some x) (λr=>(r.2.1=0↔p)/\(r.2.1=0->r.1=kj M a.bz a/\xL F a r.2.2)):=λ{p x q} m g=>by rw[aP];exact ⟨⟨λh=>absurd h g,λh=>absurd h m⟩,λh=>absurd h g⟩
 rw[aR];refine ⟨λh=>?_,λh=>?_⟩
 ·simp only[dQ,aM,oQ] at h;refine no (q:=True) (λt=>?_) (by simp);have:=t.EU;rcases h with h | h
  ·omega
  ·exact t.MH (QI (by omega))
 ·simp only[dQ,aM,oQ,not_or] at h;refine (vK _ _ f).bind λr i=>?_;rw[aR];refine ⟨λe=>no (q:=True) (λt=>by have:=i.2 t.shares;rw[this] at e;cases e) (by simp),λe=>?_⟩;simp only[fJ,kO] at e;have S:=i.1 e;refine (dj a.aJ).bind λo d=>?_;rw[aR];refine ⟨λe=>no (q:=True) (λt=>by have:=d.2 t.cO;rw[this] at e;cases e) (by simp),λe=>?_⟩;simp only[fJ,kO] at e;have V:=d.1 e;cases j:cq M a.bz with
  |some v=>exact no (q:=True) (λt=>by have:=t.free;rw[j] at this;cases this) (by simp)
  |none=>
   simp only[Zh];refine (Kp k f S V l).bind λs b=>?_;rw[aR];refine ⟨λe=>?_,λe=>?_⟩
   ·simp only[zC,ne_eq] at e;exact no (q:=True) (λt=>e (b.1.2 t.fits)) e
   ·simp only[zC,ne_eq,KM] at e;rw[Az (by omega),aF,aP];refine ⟨⟨λ_=>⟨by omega,λn=>?_,S,V,j,b.1.1 e⟩,λ_=>rfl⟩,λ_=>⟨rfl,b.2 e⟩⟩;rw[n] at h;simp at h
end Go.Plain
end
section
namespace Go.Plain
open Go.Abs
theorem bR{p:Prop}(h:¬p):bp (some false) (λb=>b=true↔p):=by rw[aP];simp[h]
theorem lQ{p:Prop}(h:p):bp (some true) (λb=>b=true↔p):=by rw[aP];simp[h]
structure Gv (s:aX) (st:cg):Prop where
 now:0<=st.fL/\st.fL<=1099511627776
 next:1<=st.Next/\st.Next<=s.tc+1
 book:1<=st.ib/\st.ib<=281474976710656
theorem HD{s:aX}(k:bn s)(st:cg):dL (gE 5000 s st) (Gv s st):=by have e:=k.ids;simp only[gE,UI,Option.bind_some,dL];rw[wr (x:=s.tc+1) (by omega) (by omega)];simp only[aR,aP,aU,aM,aV,wZ];exact ⟨λa=>⟨λb=>⟨λd=>⟨a,b,d⟩,λh=>h.book⟩,λb h=>b h.next⟩,λa h=>a h.now⟩
def kL(x:Int):Int:=if x=3 then 1 else if x=4 then 2 else if x=5∨x=6 then 3 else 0
theorem E_(x:Int):0<=kL x/\kL x<=3:=by unfold kL;split <;> (try split) <;> (try split) <;> omega
theorem NV(x:Int):km 5000 x=some (kL x):=by
 simp only[km,dl,Option.bind_some,oQ,dQ];unfold kL;split
 ·rfl
 ·split
  ·rfl
  ·split <;> rfl
structure Ak (s:aX) (st:cg) (j:aD):Prop where
 ok:jL j
 next:j.Id<st.Next
 user:j.bH<s.aT
 queue:j.Queue<s.ah.length
 born:j.dy<=st.fL
 start:j.Start<=st.fL
 fin:j.End<=st.fL
 version:j.bA<=s.aK+kL j.State
def Cs(l:List aD):Nat->Int
 |0=>0
 |i+1=>((l[i]?).map (·.Id)).getD 0
theorem qI{l:List aD}{i:Nat}(h:i<l.length):Cs l (i+1)=l[i].Id:=by simp[Cs,h]
structure cr (s:aX) (st:cg):Prop where
 len:(st.an.length:Int)<=s.an
 each:∀j∈st.an,Ak s st j
 dN:cB st.an
theorem IY{s:aX}{st:cg}(h:(st.an.length:Int)<=s.an)(g:∀i (h:i<st.an.length),Ak s st st.an[i]/\Cs st.an i<st.an[i].Id):cr s st:=
 ⟨h,λj b=>by obtain ⟨i,a,rfl⟩:=tE b;exact (g i a).1,λi a=>by have:=(g (i+1) a).2;rwa [qI (by omega)] at this⟩
theorem cr.zt{s:aX}{st:cg}(h:cr s st)(i:Nat)(j:i<st.an.length):Ak s st st.an[i]/\Cs st.an i<st.an[i].Id:=by
 refine ⟨h.each _ (bZ j),?_⟩
 match i,j with
 |0,j=>have:=(h.each _ (bZ j)).ok.id;simp only[Cs];omega
 |i+1,j=>rw[qI (by omega)];exact h.dN i j
theorem cr.ids{s:aX}{st:cg}(h:cr s st):∀j∈st.an,0<=j.Id/\j.Id<=1048576:=λj i=>by have:=(h.each j i).ok.id;omega
theorem ZE{a b c n:Int}:(if c > (if b > a then b else a) then c else (if b > a then b else a)) > n↔a > n∨b > n∨c > n:=by split <;> split <;> omega
theorem Tg{s:aX}(k:bn s){st:cg}(n:kk s st):dL (mg 5000 s st) (cr s st):=by
 have z:=k.tQ;have A:=n.cd;simp only[mg,kh,NV,Option.bind_some];rw[dL,aR];refine ⟨λh=>bR λq=>?_,λo=>?_⟩
 ·have:=q.len;simp only[aM] at h;omega
 ·simp only[aM] at o;refine uP st.an.length (λi x=>x=(Cs st.an i,(i:Int))/\∀j (h:j<st.an.length),j<i->Ak s st st.an[j]/\Cs st.an j<st.an[j].Id) (λi x f b g p=>?_) (λx f g=>?_) ⟨rfl,λj h e=>by omega⟩ (by omega)
  ·obtain ⟨rfl,l⟩:=g;simp only[cG b,if_true,bY b,Option.bind_some,bF (show i<1000000 by omega)];refine (AF _).bind λr d=>?_;rw[aR];refine ⟨λh=>bR λq=>?_,λh=>?_⟩
   ·have a:=q.zt i b;have t:=d.2 a.1.ok;have E:=a.1.next;have F:=a.2;simp only[t,dQ,aM,Dm,aV,false_or] at h;omega
   ·simp only[dQ,aM,not_or,fJ,kO] at h;have a:=d.1 h.1.1;rw[aR];refine ⟨λh=>bR λq=>?_,λu=>?_⟩
    ·have a:=(q.zt i b).1;have:=a.user;have:=a.queue;simp only[dQ,aM] at h;omega
    ·simp only[dQ,aM,not_or] at u;rw[aR];refine ⟨λh=>?_,λv=>?_⟩
     ·refine bR λq=>?_;have a:=(q.zt i b).1;have:=a.born;have:=a.start;have:=a.fin;simp only[aM,ZE] at h;omega
     ·simp only[aM,ZE] at v;have G:=E_ st.an[i].State;rw[wr (x:=s.aK+kL _) (by omega) (by omega),aR];refine ⟨λh=>bR λq=>?_,λw=>p _ ⟨by rw[qI b],λj y m=>?_⟩⟩
      ·have a:=(q.zt i b).1.version;simp only[aM] at h;omega
      ·simp only[aM] at w;rcases FU (QN.1 m) with e | e
       ·exact l j y e
       ·subst e;exact ⟨⟨a,by omega,by omega,by omega,by omega,by omega,by omega,by omega⟩,by omega⟩
  ·obtain ⟨rfl,l⟩:=g;simp only[c_,aV,bm];exact lQ (IY (by omega) λi b=>l i b b)
structure Tz (s:aX) (st:cg) (j:aD):Prop where
 fits:i_ 5000 s j.Queue j.aZ j.aJ=some true
 after:∀d∈j.aA,∃i∈st.an,i.Id=d.bz
def DZ(s:aX)(st:cg)(j:aD):Prop:=j.State<5->Tz s st j
theorem He{s:aX}(k:bn s){st:cg}(t:kk s st)(J:cr s st):dL (gC 5000 s st) (∀j∈st.an,DZ s st j):=by
 have E:=t.cd;simp only[gC,kh,dl,Option.bind_some];refine FX st.an (DZ s st) _ (λh=>h) (λi f o Q u v=>?_) (λf h=>?_) (by omega)
 ·simp only[cG o,if_true,bY o,Option.bind_some,bF (show i<1000000 by omega)];have e:=J.each _ (bZ o);have y:=e.ok.state.st;rw[aR];refine ⟨λh=>u λhs=>?_,λh=>?_⟩
  ·simp only[dQ,oQ] at h;omega
  ·simp only[dQ,oQ,not_or] at h;have hs:st.an[i].State<5:=by omega
   obtain ⟨b,p,F⟩:=JM t.spec k (q:=st.an[i].Queue) (m:=st.an[i].aZ) e.ok.cO e.ok.Il;rw[p,aF,aR];refine ⟨λa=>?_,λa=>?_⟩
   ·rw[aP];refine v λw=>?_;have:=(w hs).fits;rw[p] at this;simp only[ab] at this;subst this;simp at a
   ·simp only[fJ,kO] at a;subst a;have G:=e.ok.uW;refine tH st.an[i].aA (λ_ d=>∃j∈st.an,j.Id=d.bz) (λm g n x z=>?_) (λg x=>?_) (by omega)
    ·simp only[cG n,if_true,bY n,Option.bind_some,bF (show m<1000000 by omega)];have K:=e.ok.after _ (bZ n);have A:=e.ok.id;refine (JP (by omega) J.dN (id:=st.an[i].aA[m].bz) (by omega) J.ids).bind λr l=>?_;rw[aR];refine ⟨λa=>?_,λa=>z ?_⟩
     ·rw[aP];refine v λw=>?_;have:=l.1.2 ((w hs).after _ (bZ n));rw[this] at a;simp at a
     ·simp only[fJ,kO] at a;exact l.1.1 a
    ·simp only[c_,aV,bm];exact u λ_=>⟨p,zY x⟩
 ·simp only[c_,aV,bm];exact lQ h
structure Pu (s:aX) (st:cg):Prop where
 len:(st.iW.length:Int)=s.aT
 use:∀x∈st.iW,0<=x/\x<=1099511627776
 ZQ:st.aG.ah.length=s.ah.length
 nodes:0<=st.aG.aw/\st.aG.aw<=281474976710656
 stamps:∀x∈st.aG.ah,0<=x/\x<=281474976710656
theorem DT(l:List Int)(e:l.length<=300):dL (kB 5000 l) (∀x∈l,0<=x/\x<=1099511627776):=by
 simp only[kB];refine FX l (λx=>0<=x/\x<=1099511627776) _ (λh=>h) (λi f a Q b d=>?_) (λf h=>?_) (by omega)
 ·simp only[cG a,if_true,bY a,Option.bind_some,bF (show i<1000000 by omega),aR,aP,dQ,aM];exact ⟨λh=>d (by omega),λh=>b (by omega)⟩
 ·simp only[c_,aV,bm];exact lQ h
theorem P_{s:aX}{st:cg}(e:kk s st):dL (kr 5000 s st) (Pu s st):=by
 have n:=e.use;have o:=e.stamps;simp only[kr,kh,UI,Option.bind_some,if_true];rw[dL,aR];refine ⟨λh=>bR λq=>?_,λh=>?_⟩
 ·simp only[zC,ne_eq] at h;exact h q.len
 ·simp only[zC,ne_eq,KM] at h;refine (DT st.iW (by omega)).bind λr j=>?_;rw[aR];refine ⟨λa=>bR λq=>?_,λa=>?_⟩
  ·have:=j.2 q.use;rw[this] at a;simp at a
  ·simp only[fJ,kO] at a;rw[aR];refine ⟨λd=>bR λq=>?_,λd=>?_⟩
   ·simp only[zC,ne_eq] at d;have:=q.ZQ;omega
   ·simp only[zC,ne_eq,KM] at d;rw[aR];refine ⟨λb=>bR λq=>?_,λb=>?_⟩
    ·simp only[fJ,Vz,UO] at b;have:=q.nodes;omega
    ·simp only[fJ,kO,aU,aM] at b;refine FX st.aG.ah (λx=>0<=x/\x<=281474976710656) _ (λh=>h.stamps) (λi f k Q l m=>?_) (λf g=>?_) (by omega)
     ·simp only[cG k,if_true,bY k,Option.bind_some,bF (show i<1000000 by omega),aR,aP,fJ,Vz,UO];exact ⟨λh=>m (by omega),λh=>l (by omega)⟩
     ·simp only[c_,aV,bm];exact lQ ⟨h,j.1 a,by omega,b,g⟩
theorem Uz(l:List Int)(n:Int)(j:l.length<=300):dL (zdD 5000 l n) ((l.length:Int)=n/\∀x∈l,0<=x/\x<=1099511627776):=by
 simp only[zdD,kh];refine FX l (λx=>0<=x/\x<=1099511627776) _ (λh=>h.2) (λi f a Q d b=>?_) (λf h=>?_) (by omega)
 ·simp only[cG a,if_true,bY a,Option.bind_some,bF (show i<1000000 by omega),aR,aP,aM];exact ⟨λh=>b (by omega),λh=>⟨λg=>b (by omega),λg=>d (by omega)⟩⟩
 ·simp only[c_,aV,bm,aP,oQ];exact ⟨λe=>⟨e,h⟩,λe=>e.1⟩
theorem Cc(x:Int):dL (UQ 5000 x) (0<=x/\x<=281474976710656):=by simp only[UQ,dL,aP,aU,aM,ge_iff_le]
end Go.Plain
end
section
namespace Go.Plain
open Go.Abs
def tB(j:aD):Bool:=(j.State == 3) || (j.State == 4)
theorem TP{j:aD}(h:tB j=true):j.State<5:=by simp only[tB,dQ,oQ] at h;omega
structure vq (s:aX) (st:cg) (j:aD) (a:cn):Prop where
 EU:a.bz=j.Id
 cO:a.aJ=j.aJ
 DO:BT s j a.aq
 now:st.fL<j.Start+j.dY
def rY(F:List aN)(a:cn):List aN:=F.mapIdx (vQ a)
theorem iX{F:List aN}{a:cn}:(rY F a).length=F.length:=by simp[rY]
theorem uK{F:List aN}{a:cn}{i:Nat}(h:i<(rY F a).length):(rY F a)[i]=vQ a i (F[i]'(by rwa [iX] at h)):=by simp[rY]
theorem xL.eq{F G:List aN}{a:cn}(h:xL F a G):G=rY F a:=
 List.ext_getElem (by rw[h.len,iX]) λi j o=>by rw[h.zt i j,uK o]
theorem ut{F:List aN}{a:cn}(h:wj F a):∀r∈rY F a,bo r:=λr b=>by obtain ⟨i,d,rfl⟩:=tE b;rw[uK d];exact h i _
def gy(s:aX)(st:cg):List aD->List cn->List aN->Prop
 |[],A,_=>A=[]
 |j::H,A,F=>∃a b,A=a::b/\vq s st j a/\wj F a/\gy s st H b (rY F a)
def eT(s:aX)(st:cg):Prop:=gy s st (st.an.filter tB) st.aj s.aw
theorem gy.mem{s:aX}{st:cg}{H:List aD}{A:List cn}{F:List aN}(h:gy s st H A F):∀a∈A,∃j∈H,vq s st j a:=by
 induction H generalizing A F with
 |nil=>intro a i;rw[show A=[] from h] at i;cases i
 |cons j H ih=>
  obtain ⟨b,z,rfl,o,E,u⟩:=h;intro a i;rcases dO.1 i with rfl | i
  ·exact ⟨j,li ..,o⟩
  ·obtain ⟨k,hk,x⟩:=ih u a i;exact ⟨k,kE _ hk,x⟩
theorem eT.mem{s:aX}{st:cg}(h:eT s st):∀a∈st.aj,∃j∈st.an,vq s st j a:=λa i=>by obtain ⟨j,o,u⟩:=gy.mem h a i;exact ⟨j,(Dv.1 o).1,u⟩
theorem KF{α:Type}{M:List (Int×α)}{k:Int}{a:α}{b:Int}:cq (kj M k a) b=if k=b then some a else cq M b:=by
 induction M with
 |nil=>simp[kj,cq]
 |cons p M ih=>
  obtain ⟨q,v⟩:=p;simp only[kj];split
  ·rename_i e;subst e;simp only[cq];split <;> rfl
  ·rename_i e;simp only[cq,ih];split
   ·rename_i d;rw[if_neg (by intro f;exact e (by rw[d,f]))]
   ·rfl
theorem Am{s:aX}(hs:iC s)(k:bn s):JT 5000 s=some true:=by obtain ⟨r,e,h⟩:=mq s hs;rw[e,h.2 k]
theorem Aq{l:List aN}(h:l.length<=1000000):zaF 5000 l=some l:=by simp only[zaF,FZ h]
theorem yg{s:aX}(hs:iC s)(k:bn s):YC 5000 s=some (.inr ([],s.aw)):=by have:=hs.nodes;simp only[YC,Am hs k,Option.bind_some,Dm,aV,bm,Aq (show s.aw.length<=1000000 by omega)]
theorem Jp{l:List jY}(h:1<=oh l):l≠[]:=λe=>by subst e;simp[oh] at h
structure AInv (s:aX) (st:cg) (i:Nat) (x:(List cn)×Int×(List aN)×List (Int×cn)):Prop where
 ix:x.2.1=(i:Int)
 iff:eT s st↔gy s st ((st.an.drop i).filter tB) x.1 x.2.2.1
 len:x.2.2.1.length=s.aw.length
 vec:∀r∈x.2.2.1,bo r
 keys:∀q,cq x.2.2.2 q≠none->∃m,∃h:m<st.an.length,m<i/\st.an[m].Id=q
 sub:∀a∈x.1,a∈st.aj
 few:x.1.length<=300
theorem yJ{s:aX}(k:bn s){st:cg}(G:kk s st)(J:cr s st):dL (zc4 5000 s st) (eT s st):=by
 have hl:=G.cd;have hn:=G.spec.nodes;unfold zc4;rw[yg G.spec k,aF];dsimp only;refine uP st.an.length (AInv s st) (λi x f K Z hr=>?_) (λx f Z=>?_) ⟨rfl,by simp[eT],rfl,k.nodes.ok,λq h=>absurd rfl h,λa ha=>ha,G.cu⟩ (by omega)
 ·obtain ⟨t,x1,F,M⟩:=x;obtain ⟨u,d,j,o,g,l,p⟩:=Z;dsimp only at u d j o g l p;subst u;rw[ZY K] at d;have ji:=J.each _ (bZ K);have Q:=ji.ok;have up:∀q,(∃m,∃h:m<st.an.length,m<i/\st.an[m].Id=q)->∃m,∃h:m<st.an.length,m<i+1/\st.an[m].Id=q:=λq ⟨m,h,R,w⟩=>⟨m,h,by omega,w⟩;simp only[kh,jW,cG K,if_true,bY K,Option.bind_some,bF (show i<1000000 by omega)];rw[aR];refine ⟨λh=>hr _ ⟨rfl,?_,j,o,λq L=>up q (g q L),l,p⟩,λh=>?_⟩
  ·have e:tB st.an[i]=false:=by simpa[tB] using h
   rw[d,List.filter_cons_of_neg (by simp[e])]
  ·have e:tB st.an[i]=true:=by simpa only[tB,fJ,kO] using h
   rw[List.filter_cons_of_pos e] at d;have ak:=Q.start;have ax:=Q.wall;rw[wr (x:=st.an[i].Start+st.an[i].dY) (by omega) (by omega),aR];refine ⟨λR=>bR λq=>?_,λR=>?_⟩
   ·obtain ⟨a,N,rfl,y,-⟩:=d.1 q;have:=y.now;simp only[dQ,aM,oQ,List.length_cons] at R;omega
   ·simp only[dQ,aM,oQ,not_or] at R;cases t with
    |nil=>simp at R
    |cons a N=>
     have ha:=l a (li ..);have U:=G.shares a ha;have ad:au (a::N) 0=some a:=by unfold au;rw[if_pos ⟨by omega,by simp only[List.length_cons];omega⟩];rfl
     have sl:slice? (a::N) 1 ((a::N).length:Int)=some N:=by unfold slice?;rw[if_pos ⟨by omega,by simp only[List.length_cons];omega,by omega⟩];simp
     simp only[ad,sl,Option.bind_some];rw[aR];refine ⟨λw=>?_,λw=>?_⟩
     ·refine bR λq=>?_;obtain ⟨a',z,A,y,-⟩:=d.1 q;cases A;have e1:=y.EU;have e2:aN.beq a.aJ st.an[i].aJ=true:=gz.2 y.cO;rw[e2] at w;simp[e1] at w
     ·simp only[dQ,zC,ne_eq,not_or,KM,fJ,kO] at w;have eN:a.aJ=st.an[i].aJ:=gz.1 w.2;refine (Qj G.spec k st.an[i] a.aq (jI U (by decide))).bind λr W=>?_;rw[aR];refine ⟨λX=>?_,λX=>?_⟩
      ·refine bR λq=>?_;obtain ⟨a',z,A,y,-⟩:=d.1 q;cases A;have:=W.2 y.DO;rw[this] at X;simp at X
      ·simp only[fJ,kO] at X;have S:=W.1 X;have P:vq s st st.an[i] a:=⟨w.1,eN,S,by omega⟩;have T:wj F a->Hv M F a:=λY=>⟨by have:=Q.id;omega,Jp (by have:=Q.Ri;have:=S.tot;omega),by rw[j];exact S.shares,by rw[eN];exact Q.cO,by
        cases hm:cq M a.bz with
        |none=>rfl
        |some v=>obtain ⟨m,a0,af,a1⟩:=g a.bz (by rw[hm];simp);have:=J.dN.lt af K;omega,Y⟩
       refine (IE (M:=M) (a:=a) (F:=F) (by omega) (jI U (by decide)) o).bind λr2 E=>?_;rw[aR];refine ⟨λO=>bR λq=>?_,λO=>?_⟩
       ·obtain ⟨a',z,A,y,Y,-⟩:=d.1 q;cases A;simp only[zC,ne_eq] at O;exact O (E.1.2 (T Y))
       ·simp only[zC,ne_eq,KM] at O;have tk:=E.1.1 O;obtain ⟨eM,bh⟩:=E.2 O;have eF:=bh.eq;refine hr _ ⟨rfl,?_,?_,?_,λq L=>?_,λb hb=>l b (kE _ hb),?_⟩
        ·rw[d];dsimp only;rw[eF];constructor
         ·rintro ⟨a',z,A,y,Y,n⟩;cases A;exact n
         ·intro n;exact ⟨a,N,rfl,P,tk.fits,n⟩
        ·dsimp only;rw[eF,iX,j]
        ·dsimp only;rw[eF];exact ut tk.fits
        ·dsimp only at L;rw[eM,KF] at L;split at L
         ·rename_i e5;exact ⟨i,K,by omega,by rw[<-e5,w.1]⟩
         ·exact up q (g q L)
        ·simp only[List.length_cons] at p;dsimp only;omega
 ·obtain ⟨t,x1,F,M⟩:=x;obtain ⟨u,d,j,o,g,l,p⟩:=Z;dsimp only at u d;subst u;rw[List.drop_length] at d;simp only[c_,aV,bm,aP,oQ];rw[d];constructor
  ·intro h;exact QI (by omega)
  ·intro h;rw[show t=[] from h];rfl
end Go.Plain
end
section
namespace Go.Plain
open Go.Abs
structure WC (n:Int) (b:lz):Prop where
 id:1<=b.Id/\b.Id<=281474976710656
 node:0<=b.Node/\b.Node<n
 lo:0<=b.dR
 span:b.dR<b.To
 hi:b.To<=1099511627776
structure pL (b:lz) (node p q:Int):Prop where
 node:b.Node=node
 span:b.dR<b.To
 pq:p<q
 l:b.dR<q
 r:p<b.To
structure Ha (l:List lz) (n:Int) (i:Nat) (b:lz):Prop where
 one:WC n b
 up:∀x (h:x<l.length),x<i->l[x].Id<b.Id/\¬pL l[x] b.Node b.dR b.To
structure xr (l:List lz) (n:Int):Prop where
 len:l.length<=16
 each:∀i (h:i<l.length),Ha l n i l[i]
theorem xY(l:List lz)(node p q:Int)(k:l.length<=300):dL (dM 5000 l node p q) (∃b∈l,pL b node p q):=by
 simp only[dM];refine tH l (λ_ b=>¬pL b node p q) (λi f a _ d=>?_) (λf h=>?_) (by omega)
 ·simp only[cG a,if_true,bY a,Option.bind_some,bF (show i<1000000 by omega),aR];have e:decide ((if p > l[i].dR then p else l[i].dR)<(if q<l[i].To then q else l[i].To))=true↔l[i].dR<l[i].To/\p<q/\l[i].dR<q/\p<l[i].To:=by
   rw[aM];split <;> split <;> omega
  rw[aU,e,oQ];exact ⟨λh=>lQ ⟨_,bZ a,⟨h.1,h.2.1,h.2.2.1,h.2.2.2.1,h.2.2.2.2⟩⟩,λh=>d λm=>h ⟨m.node,m.span,m.pq,m.l,m.r⟩⟩
 ·simp only[c_,aV,bm];exact bR λ⟨b,g,j⟩=>zY (A:=λb=>¬pL b node p q) h b g j
theorem JZ(l:List lz)(node p q:Int)(j:l.length<=300):dL (zcB 5000 l node p q) (∃b∈l,pL b node p q):=by
 simp only[zcB];refine tH l (λ_ b=>¬pL b node p q) (λi f a _ d=>?_) (λf h=>?_) (by omega)
 ·simp only[cG a,if_true,bY a,Option.bind_some,bF (show i<1000000 by omega),aR];simp only[aU,aM,oQ];exact ⟨λh=>lQ ⟨_,bZ a,⟨h.1.1.1.1,h.1.1.1.2,h.1.1.2,h.1.2,h.2⟩⟩,λh=>d λm=>h ⟨⟨⟨⟨m.node,m.span⟩,m.pq⟩,m.l⟩,m.r⟩⟩
 ·simp only[c_,aV,bm];exact bR λ⟨b,e,g⟩=>zY (A:=λb=>¬pL b node p q) h b e g
theorem PH(b:lz)(n:Int):dL (mD 5000 b n) (WC n b):=by simp only[mD,dL,aP,aU,aM];exact ⟨λh=>⟨by omega,by omega,by omega,by omega,by omega⟩,λh=>by have:=h.id;have:=h.node;have:=h.lo;have:=h.span;have:=h.hi;omega⟩
theorem Sa(b:lz)(n:Int):dL (zdE 5000 b n) (WC n b):=by simp only[zdE,UQ,Option.bind_some,dL,aR,aP,aU,aM];refine ⟨λa=>⟨λh=>⟨by omega,by omega,by omega,by omega,by omega⟩,λh=>by have:=h.id;have:=h.node;have:=h.lo;have:=h.span;have:=h.hi;omega⟩,λa=>⟨λh=>by simp at h,λh=>by have:=h.id;omega⟩⟩
theorem Gu{α:Type}{l:List α}{i:Nat}(h:i<=l.length):slice? l 0 (i:Int)=some (l.take i):=by unfold slice?;rw[if_pos ⟨by omega,by omega,by omega⟩];simp
theorem NH{l:List lz}{i:Nat}{P:lz->Prop}:(∃b∈l.take i,P b)↔∃x,∃h:x<l.length,x<i/\P l[x]:=by
 constructor
 ·rintro ⟨b,d,hp⟩;obtain ⟨x,a,rfl⟩:=tE d;rw[zp] at a;rw[UT] at hp;exact ⟨x,by omega,by omega,hp⟩
 ·rintro ⟨x,a,e,hp⟩;have f:x<(l.take i).length:=by rw[zp];omega
  refine ⟨(l.take i)[x],bZ f,?_⟩;rw[UT];exact hp
theorem GK(l:List lz)(n:Int)(y:l.length<=300):dL (mS 5000 l n) (xr l n):=by
 unfold mS;rw[dL,aR];refine ⟨λh=>bR λq=>?_,λh=>?_⟩
 ·have:=q.len;simp only[aM] at h;omega
 ·simp only[aM] at h;refine tH l (λi b=>Ha l n i b) (λi f d p w=>?_) (λf p=>?_) (by omega)
  ·have hd:decide ((i:Int) > 0)=decide (0<i):=by simp
   simp only[kh,cG d,if_true,bY d,Option.bind_some,bF (show i<1000000 by omega),hd,Gu (Nat.le_of_lt d)];refine (PH l[i] n).bind λr k=>?_;rw[aR];refine ⟨λo=>bR λq=>?_,λo=>?_⟩
   ·have:=k.2 (q.each i d).one;rw[this] at o;simp at o
   ·simp only[fJ,kO] at o;have O:=k.1 o;have fin:(∀x (h:x<l.length),x<i->l[x].Id<l[i].Id)->bp ((dM 5000 (l.take i) l[i].Node l[i].dR l[i].To).bind λr=>if r=true then some false else f ((i+1:Nat):Int)) (λb=>b=true↔xr l n):=λs=>by
     refine (xY (l.take i) _ _ _ (by rw[zp];omega)).bind λr e=>?_;rw[NH] at e;rw[aR];refine ⟨λg=>bR λq=>?_,λg=>w ⟨O,λx j a=>⟨s x j a,λm=>g (e.2 ⟨x,j,a,m⟩)⟩⟩⟩;obtain ⟨x,j,a,m⟩:=e.1 g;exact ((q.each i d).up x j a).2 m
    rw[aR];refine ⟨λg=>?_,λg=>?_⟩
    ·simp only[aM] at g;obtain ⟨m,rfl⟩:∃m,i=m+1:=⟨i-1,by omega⟩;have t:m<l.length:=by omega
     rw[ZV (show m+1<1000000 by omega),bY t,aF,aR];refine ⟨λu=>bR λq=>?_,λu=>fin λx j a=>?_⟩
     ·have:=((q.each (m+1) d).up m t (by omega)).1;simp only[aM] at u;omega
     ·simp only[aM] at u;rcases FU (QN.1 a) with v | v
      ·have:=((p m t (by omega)).up x j v).1;omega
      ·subst v;omega
    ·simp only[aM] at g;exact fin λx j a=>by omega
  ·simp only[c_,aV,bm];exact lQ ⟨by omega,λi d=>p i d⟩
theorem LR{α:Type}{l:List α}{i:Nat}(h:i<l.length):slice? l (i:Int) ((i+1:Nat):Int)=some [l[i]]:=by unfold slice?;rw[if_pos ⟨by omega,by omega,by omega⟩];simp only[Int.toNat_natCast];rw[RW h,List.drop_append_of_le_length (by rw[zp];omega),UK (by rw[zp];omega)];rfl
theorem Qh(l:List lz)(n:Int)(K:l.length<=300):dL (zcK 5000 l n) (xr l n):=by
 unfold zcK;refine tH l (λi b=>Ha l n i b) (λi f d A E=>?_) (λf A=>?_) (by omega)
 ·simp only[kh,cG d,if_true,bY d,Option.bind_some,bF (show i<1000000 by omega)];refine (Sa l[i] n).bind λr j=>?_;rw[aR];refine ⟨λk=>bR λq=>?_,λk=>?_⟩
  ·have:=j.2 (q.each i d).one;rw[this] at k;simp at k
  ·simp only[fJ,kO] at k;have O:=j.1 k;refine uP i (λx y=>y=(x:Int)/\∀z (h:z<l.length),z<x->l[z].Id<l[i].Id/\¬pL l[z] l[i].Node l[i].dR l[i].To) (λx y g p s F=>?_) (λy g s=>?_) ⟨rfl,λz h o=>by omega⟩ (by omega)
   ·obtain ⟨rfl,t⟩:=s;have a:x<l.length:=by omega
    simp only[cG p,if_true,bY a,Option.bind_some,bF (show x<1000000 by omega)];rw[aR];refine ⟨λu=>bR λq=>?_,λu=>?_⟩
    ·have:=((q.each i d).up x a p).1;simp only[aM] at u;omega
    ·simp only[aM] at u;rw[LR a,aF];refine (JZ [l[x]] _ _ _ (by simp)).bind λr e=>?_;simp only[Mq,exists_eq_left] at e;rw[aR];refine ⟨λv=>bR λq=>((q.each i d).up x a p).2 (e.1 v),λv=>F _ ⟨rfl,λz G w=>?_⟩⟩;rcases FU (QN.1 w) with o | o
     ·exact t z G o
     ·subst o;exact ⟨by omega,λm=>v (e.2 m)⟩
   ·obtain ⟨rfl,t⟩:=s;simp only[c_,aV,bm];exact E ⟨O,t⟩
 ·simp only[c_,aV,bm,aP,aM];exact ⟨λh=>⟨by omega,λi d=>A i d⟩,λq=>by have:=q.len;omega⟩
def Ja(st:cg)(a:cn):Prop:=∀j∈st.an,j.Id=a.bz->∀x∈a.aq,∀b∈st.bI,b.Node=x.Node->¬b.dR<j.Start+j.dY
structure ye (s:aX) (st:cg):Prop where
 ng:xr st.bI s.aw.length
 live:∀b∈st.bI,b.Id<st.ib/\st.fL<b.To
 Vr:∀a∈st.aj,Ja st a
theorem FE{s:aX}{st:cg}(z:kk s st)(J:cr s st)(A:eT s st):dL (eL 5000 s st) (ye s st):=by
 have k:=z.ng;have hj:=z.cd;have U:=z.cu;unfold eL;refine (GK st.bI _ (by omega)).bind λr u=>?_;rw[aR];refine ⟨λv=>bR λq=>?_,λv=>?_⟩
 ·have:=u.2 q.ng;rw[this] at v;simp at v
 ·simp only[fJ,kO] at v;have B:=u.1 v;refine tH st.bI (λi b=>b.Id<st.ib/\st.fL<b.To) (λi f n _ E=>?_) (λf R=>?_) (by omega)
  ·simp only[cG n,if_true,bY n,Option.bind_some,bF (show i<1000000 by omega)];rw[aR];simp only[dQ,aM];exact ⟨λW=>bR λq=>by have:=q.live _ (bZ n);omega,λW=>E (by omega)⟩
  ·simp only[c_,aV,bm];refine tH st.aj (λi a=>Ja st a) (λi f n _ E=>?_) (λf X=>?_) (by omega)
   ·simp only[cG n,if_true,bY n,Option.bind_some,bF (show i<1000000 by omega)];have F:=bZ n;have Y:=z.shares _ F;obtain ⟨j,d,P⟩:=A.mem _ F;have o:=J.each j d;have Z:=o.ok.id;have ad:=o.ok.start;have jw:=o.ok.wall;refine (JP (by omega) J.dN (id:=st.aj[i].bz) (by have:=P.EU;omega) J.ids).bind λr2 p=>?_;rw[p.1.2 ⟨j,d,P.EU.symm⟩,if_neg (by simp)];have h:=p.2 (p.1.2 ⟨j,d,P.EU.symm⟩);obtain ⟨G,af⟩:=r2;dsimp only at h ⊢;obtain ⟨K,e⟩:=cS (l:=st.an) h.lo (by have:=h.lo;have:=h.hi;omega);have ej:st.an[G.toNat]=j:=by
     obtain ⟨m,t,rfl⟩:=tE d;have:=J.dN.inj K t (by rw[h.is,P.EU]);subst this;rfl
    rw[ej] at e;rw[e];simp only[Option.bind_some];rw[wr (x:=j.Start+j.dY) (by omega) (by omega)];have pn:=P.now;refine tH st.aj[i].aq (λ_ x=>∀b∈st.bI,b.Node=x.Node->¬b.dR<j.Start+j.dY) (λm g t _ hg=>?_) (λg hG=>?_) (by omega)
    ·simp only[cG t,if_true,bY t,Option.bind_some,bF (show m<1000000 by omega)];refine (xY st.bI _ _ _ (by omega)).bind λr3 w=>?_;rw[aR];refine ⟨λL=>bR λq=>?_,λL=>hg λb k hn hf=>L (w.2 ⟨b,k,?_⟩)⟩
     ·obtain ⟨b,k,S⟩:=w.1 L;exact q.Vr _ F j d P.EU.symm _ (bZ t) b k S.node S.l
     ·obtain ⟨y,T,rfl⟩:=tE k;have:=R y T;exact ⟨hn,(B.each y T).one.span,pn,hf,this.2⟩
    ·simp only[c_,aV,bm];refine E λM N O x K b k=>?_;have:M=j:=by
      obtain ⟨m,t,rfl⟩:=tE d;obtain ⟨m',Q,rfl⟩:=tE N;have:=J.dN.inj Q t (by rw[O,P.EU]);subst this;rfl
     subst this;exact zY (A:=λx=>∀b∈st.bI,b.Node=x.Node->¬b.dR<M.Start+M.dY) hG x K b k
   ·simp only[c_,aV,bm];exact lQ ⟨B,zY R,zY X⟩
structure Gw (s:aX) (st:cg):Prop where
 spec:bn s
 Ka:Gv s st
 cd:cr s st
 waits:∀j∈st.an,DZ s st j
 cu:eT s st
 MC:ye s st
 use:Pu s st
theorem ES{s:aX}{st:cg}(a:kk s st):dL (kF 5000 s st) (Gw s st):=by
 unfold kF;have step:∀{o:Option Bool}{P:Prop}{k:Option Bool},dL o P->(Gw s st->P)->(P->dL k (Gw s st))->dL (o.bind λr=>if r=true then k else some false) (Gw s st):=λe b f=>e.bind λr d=>aR.2 ⟨λh=>f (d.1 h),λh=>bR λq=>h (d.2 (b q))⟩
 refine step (mq s a.spec) (λq=>q.spec) λk=>?_;refine step (HD k st) (λq=>q.Ka) λe=>?_;refine step (Tg k a) (λq=>q.cd) λb=>?_;refine step (He k a b) (λq=>q.waits) λf=>?_;refine step (yJ k a b) (λq=>q.cu) λg=>?_;refine step (FE a b g) (λq=>q.MC) λi=>?_;refine (P_ a).bind λr d=>?_;rw[aP,d];exact ⟨λj=>⟨k,e,b,f,g,i,j⟩,λq=>q.use⟩
end Go.Plain
end
section
namespace Go.Plain
open Go.Abs
def cN(A:List cn)(i:Int)(c:Nat):Int:=(A.map λa=>ja a.aq i * cmp c a.aJ).sum
theorem mB{a:cn}{A:List cn}{i:Int}{c:Nat}:cN (a::A) i c=ja a.aq i * cmp c a.aJ+cN A i c:=by simp[cN]
theorem je{A:List cn}{k:Nat}(h:k<A.length)(i:Int)(c:Nat):cN (A.take (k+1)) i c=cN (A.take k) i c+ja A[k].aq i * cmp c A[k].aJ:=by rw[RW h];simp only[cN,YI,mb,Yo,List.sum_append,List.sum_cons,List.sum_nil];omega
def zc(n:Int)(A:List cn):Prop:=∀a∈A,bB a.aq n/\bo a.aJ
theorem Px{n:Int}{a:cn}(h:bB a.aq n/\bo a.aJ)(i:Int)(c:Nat):0<=ja a.aq i * cmp c a.aJ/\ja a.aq i * cmp c a.aJ<=67108864:=
 jq (Cb h.1 i) (dE.1 h.2 c)
theorem uN{n:Int}{A:List cn}(h:zc n A)(i:Int)(c:Nat):0<=cN A i c/\cN A i c<=67108864 * A.length:=by
 induction A with
 |nil=>simp[cN]
 |cons a A ih=>have e:=ih λb d=>h b (kE _ d);have f:=Px (h a (li ..)) i c;rw[mB,List.length_cons];omega
def Ck(F:List aN)(A:List cn):Prop:=∀i (h:i<F.length) c,cN A i c<=cmp c F[i]
theorem Lh{a:aN}{n:Int}(b:bo a)(o:0<=n/\n<=64):zcJ 5000 a n=some (mulR n a):=by
 obtain ⟨m,rfl⟩:∃m:Nat,n=(m:Int):=⟨n.toNat,by omega⟩;unfold zcJ;refine bp.eq (uP m (λk x=>x=((k:Int),(k:Int) * a.cj,(k:Int) * a.Mem,(k:Int) * a.cA,(k:Int) * a.cC)) (λk x f hk d g=>?_) (λx f d=>?_) (by simp) (by omega))
 ·subst d;have h:=jq (n:=((k+1:Nat):Int)) (by omega) b.B_;have i:=jq (n:=((k+1:Nat):Int)) (by omega) b.mem;have j:=jq (n:=((k+1:Nat):Int)) (by omega) b.Ew;have l:=jq (n:=((k+1:Nat):Int)) (by omega) b.F_;have e:∀x:Int,((k+1:Nat):Int) * x=(k:Int) * x+x:=λx=>by rw[Int.natCast_add,Int.add_mul];simp
  rw[e] at h i j l;simp only[cG hk,if_true,WE,Option.bind_some,bF (show k<1000000 by omega)];refine g _ ?_;rw[wr (x:=(k:Int) * a.cj+a.cj) (by omega) (by omega),wr (x:=(k:Int) * a.Mem+a.Mem) (by omega) (by omega),wr (x:=(k:Int) * a.cA+a.cA) (by omega) (by omega),wr (x:=(k:Int) * a.cC+a.cC) (by omega) (by omega),e,e,e,e]
 ·subst d;simp only[c_,aV,bm,aP];rfl
theorem Na(a b:aN):dL (Mv 5000 a b) (∀c,cmp c a<=cmp c b):=by
 simp only[Mv,dL,aP,aU,aM];constructor
 ·intro h c
  match c with
  |0=>exact h.1.1.1
  |1=>exact h.1.1.2
  |2=>exact h.1.2
  |_+3=>exact h.2
 ·intro h;exact ⟨⟨⟨h 0,h 1⟩,h 2⟩,h 3⟩
theorem Qe{F:List aN}{A:List cn}(hF:F.length<=300)(hA:A.length<=300)(hs:∀a∈A,a.aq.length<=300){n:Int}(h:zc n A):bp (zc7 5000 F A) λr=>r.2=true↔Ck F A:=by
 unfold zc7;refine uP F.length (λi x=>(x.1=true↔∀m (h:m<F.length),m<i->∀c,cN A m c<=cmp c F[m])/\x.2.1=(i:Int)/\x.2.2.length=i) (λi x f b t L=>?_) (λx f t=>?_) ⟨⟨λ_ m h p=>by omega,λ_=>rfl⟩,rfl,rfl⟩ (by omega)
 ·obtain ⟨O,P,u⟩:=x;obtain ⟨e,j,v⟩:=t;dsimp only at e j v;subst j;simp only[cG b,if_true];refine uP A.length (λk y=>y=((k:Int),cN (A.take k) i 0,cN (A.take k) i 1,cN (A.take k) i 2,cN (A.take k) i 3)) (λk y g hk w Q=>?_) (λy g w=>?_) (by simp[cN]) (by omega)
  ·subst w;have E:=h _ (bZ hk);have s:zc n (A.take (k+1)):=λa R=>h a (KZ R);have lk:((A.take (k+1)).length:Int)<=300:=by rw[zp];omega
   have S:=uN s i 0;have T:=uN s i 1;have U:=uN s i 2;have W:=uN s i 3;rw[je hk] at S T U W;simp only[cG hk,if_true,bY hk,Option.bind_some,NG (hs _ (bZ hk)) E.1,Lh E.2 (Cb E.1 i),WE,bF (show k<1000000 by omega)];refine Q _ ?_;rw[je hk,je hk,je hk,je hk];have X:(mulR (ja A[k].aq i) A[k].aJ).cj=ja A[k].aq i * cmp 0 A[k].aJ:=rfl;have Y:(mulR (ja A[k].aq i) A[k].aJ).Mem=ja A[k].aq i * cmp 1 A[k].aJ:=rfl;have Z:(mulR (ja A[k].aq i) A[k].aJ).cA=ja A[k].aq i * cmp 2 A[k].aJ:=rfl;have e3:(mulR (ja A[k].aq i) A[k].aJ).cC=ja A[k].aq i * cmp 3 A[k].aJ:=rfl;rw[X,Y,Z,e3,wr (x:=_+ja A[k].aq i * cmp 0 A[k].aJ) (by omega) (by omega),wr (x:=_+ja A[k].aq i * cmp 1 A[k].aJ) (by omega) (by omega),wr (x:=_+ja A[k].aq i * cmp 2 A[k].aJ) (by omega) (by omega),wr (x:=_+ja A[k].aq i * cmp 3 A[k].aJ) (by omega) (by omega)]
  ·subst w;have ap:∀z:aN,cL u [z]=some (u++[z]):=λz=>mu (by simp only[List.length_singleton];omega);simp only[c_,aV,bm,kh,bY b,Option.bind_some,gg,ap,bF (show i<1000000 by omega),Mw];rw[aR];refine ⟨λd=>?_,λd=>?_⟩
   ·refine (Na _ _).bind λr G=>?_;refine L _ ⟨?_,rfl,by simp only[vU,List.length_singleton];omega⟩;dsimp only;rw[G];have M:∀c,cmp c ({ cj:=cN A i 0,Mem:=cN A i 1,cA:=cN A i 2,cC:=cN A i 3 }:aN)=cN A i (min c 3):=λc=>by
     match c with
     |0=>rfl
     |1=>rfl
     |2=>rfl
     |c+3=>rw[Nat.min_eq_right (by omega)];rfl
    have N:∀c,cN A i (min c 3)=cN A i c:=λc=>by
     match c with
     |0=>rfl
     |1=>rfl
     |2=>rfl
     |c+3=>rw[Nat.min_eq_right (by omega)];rfl
    constructor
    ·intro l m K o c;rcases FU (QN.1 o) with p | p
     ·exact e.1 d m K p c
     ·subst p;have:=l c
      rwa [M,N] at this
    ·intro l c;rw[M,N];exact l i b (by omega) c
   ·refine L _ ⟨?_,rfl,by simp only[vU,List.length_singleton];omega⟩;dsimp only;simp only[aV,wZ];intro l;exact d (e.2 λm K o=>l m K (by omega))
 ·obtain ⟨O,P,u⟩:=x;obtain ⟨e,j,v⟩:=t;dsimp only at e j v;subst j;simp only[c_,aV,bm,aP];rw[e];exact ⟨λq i b c=>q i b b c,λq i b _ c=>q i b c⟩
structure Je (s:aX) (st:cg) (i:Nat) (a:cn):Prop where
 up:∀m (h:m<st.aj.length),m+1=i->st.aj[m].bz<a.bz
 EU:∃j∈st.an,j.Id=a.bz
 shares:bB a.aq s.aw.length
 cO:bo a.aJ
structure Ou (s:aX) (st:cg):Prop where
 each:∀i (h:i<st.aj.length),Je s st i st.aj[i]
 fit:Ck s.aw st.aj
theorem Ou.SO{s:aX}{st:cg}(h:Ou s st):zc s.aw.length st.aj:=λa o=>by obtain ⟨i,j,rfl⟩:=tE o;exact ⟨(h.each i j).shares,(h.each i j).cO⟩
theorem HO{s:aX}{st:cg}(k:kk s st):dL (zco 5000 s st) (Ou s st):=by
 have L:=k.cd;have u:=k.cu;have M:=k.spec.nodes;unfold zco;refine tH st.aj (λi a=>Je s st i a) (λi f d t v=>?_) (λf t=>?_) (by omega)
 ·have hd:decide ((i:Int) > 0)=decide (0<i):=by simp
  have w:=k.shares _ (bZ d);have fin:(∀m (h:m<st.aj.length),m+1=i->st.aj[m].bz<st.aj[i].bz)->bp ((Pj 5000 st.an st.aj[i].bz).bind λr=>
    if decide (r<0)=true then some false else (XD 5000 st.aj[i].aq (s.aw.length:Int)).bind λz=>
    if (!z)=true then some false else (Qz 5000 st.aj[i].aJ).bind λl=>if (!l)=true then some false else f ((i+1:Nat):Int)) (λb=>b=true↔Ou s st):=λx=>by
   refine (lF (by omega) st.aj[i].bz).bind λr n=>?_;rw[aR];refine ⟨λh=>bR λq=>?_,λh=>?_⟩
   ·have:=n.1.2 (q.each i d).EU;simp only[aM] at h;omega
   ·simp only[aM] at h;refine (AM _ _ (jI w (by decide))).bind λz o=>?_;rw[aR];refine ⟨λh=>bR λq=>?_,λg=>?_⟩
    ·have:=o.2 (q.each i d).shares;rw[this] at h;simp at h
    ·simp only[fJ,kO] at g;refine (uO _).bind λl p=>?_;rw[aR];refine ⟨λh=>bR λq=>?_,λA=>?_⟩
     ·have:=p.2 (q.each i d).cO;rw[this] at h;simp at h
     ·simp only[fJ,kO] at A;exact v ⟨x,n.1.1 (by omega),o.1 g,p.1 A⟩
  simp only[kh,cG d,if_true,bY d,Option.bind_some,bF (show i<1000000 by omega),hd];rw[aR];refine ⟨λh=>?_,λh=>?_⟩
  ·simp only[aM] at h;obtain ⟨m,rfl⟩:∃m,i=m+1:=⟨i-1,by omega⟩;rw[ZV (show m+1<1000000 by omega),bY (show m<st.aj.length by omega),aF,aR];refine ⟨λg=>bR λq=>?_,λg=>fin λF K e=>?_⟩
   ·have:=(q.each (m+1) d).up m (by omega) rfl;simp only[aM] at g;omega
   ·simp only[aM] at g;have:F=m:=by omega
    subst this;omega
  ·simp only[aM] at h;exact fin λm N e=>by omega
 ·simp only[c_,aV,bm];have G:zc s.aw.length st.aj:=λa y=>by
   obtain ⟨j,E,rfl⟩:=tE y;exact ⟨(t j E).shares,(t j E).cO⟩
  refine (Qe (by omega) u (λa y=>jI (k.shares a y) (by decide)) G).bind λr v=>?_;rw[aP,v];exact ⟨λh=>⟨λi d=>t i d,h⟩,λh=>h.fit⟩
theorem Ib{l:List Int}(h:∀i (h:i+1<l.length),l[i]<l[i+1]):l.Pairwise (·<·):=by
 rw[Yh];intro i j f d a;induction j with
 |zero=>omega
 |succ j ih=>
  have e:=h j d;rcases FU (QN.1 a) with b | b
  ·have:=ih (by omega) b;omega
  ·subst b;exact e
theorem WJ{l m:List Int}(d:l.Pairwise (·<·))(hm:m.Pairwise (·<·))(h:∀x,x∈l↔x∈m):l=m:=by
 induction l generalizing m with
 |nil=>
  cases m with
  |nil=>rfl
  |cons y m=>exact absurd ((h y).2 (li ..)) (by simp)
 |cons x l ih=>
  cases m with
  |nil=>exact absurd ((h x).1 (li ..)) (by simp)
  |cons y m=>
   rw[yBW] at d hm;have e:x=y:=by
    rcases dO.1 ((h x).1 (li ..)) with e | a
    ·exact e
    ·rcases dO.1 ((h y).2 (li ..)) with e | f
     ·exact e.symm
     ·have:=d.1 y f;have:=hm.1 x a;omega
   subst e;congr 1;refine ih d.2 hm.2 λz=>⟨λb=>?_,λb=>?_⟩
   ·rcases dO.1 ((h z).1 (kE _ b)) with e | a
    ·have:=d.1 z b;omega
    ·exact a
   ·rcases dO.1 ((h z).2 (kE _ b)) with e | a
    ·have:=hm.1 z b;omega
    ·exact a
theorem vL{s:aX}{st:cg}{H:List aD}{A:List cn}{F:List aN}(h:gy s st H A F)(d:∀r∈F,bo r):A.map (·.bz)=H.map (·.Id)/\Ck F A:=by
 induction H generalizing A F with
 |nil=>rw[show A=[] from h];exact ⟨rfl,λi b c=>by simp only[cN,Yo,List.sum_nil];exact (dE.1 (d _ (bZ b)) c).1⟩
 |cons j H ih=>obtain ⟨a,m,rfl,e,f,g⟩:=h;obtain ⟨k,l⟩:=ih g (ut f);refine ⟨by rw[mb,mb,k,e.EU],λi b c=>?_⟩;have:=l i (by rw[iX];exact b) c;rw[uK,vQ,gD,fE] at this;rw[mB];omega
theorem Ey{s:aX}{st:cg}{n:Int}{H:List aD}{A:List cn}{F:List aN}(d:A.map (·.bz)=H.map (·.Id))(t:∀r∈F,bo r)(m:∀a∈A,∀j∈H,a.bz=j.Id->vq s st j a)(o:zc n A)(p:Ck F A):gy s st H A F:=by
 induction H generalizing A F with
 |nil=>
  cases A with
  |nil=>rfl
  |cons a A=>cases d
 |cons j H ih=>
  cases A with
  |nil=>cases d
  |cons a A=>
   rw[mb,mb] at d;have f:a.bz=j.Id:=by injection d
   have g:A.map (·.bz)=H.map (·.Id):=by injection d
   have u:=o a (li ..);have q:zc n A:=λb h=>o b (kE _ h);have fa:wj F a:=λi e=>dE.2 λc=>by have l:=p i e c;have v:=Px u i c;have w:=uN q i c;have x:=dE.1 (t _ (bZ e)) c;rw[mB] at l;rw[vQ,gD,fE];omega
   refine ⟨a,A,rfl,m a (li ..) j (li ..) f,fa,ih g (ut fa) (λb h k hk=>m b (kE _ h) k (kE _ hk)) q λi e c=>?_⟩;have l:=p i (by rwa [iX] at e) c;rw[uK,vQ,gD,fE];rw[mB] at l;omega
theorem BV{s:aX}{st:cg}(J:cr s st):((st.an.filter tB).map (·.Id)).Pairwise (·<·):=by
 have h:(st.an.map (·.Id)).Pairwise (·<·):=Ib λi a=>by rw[GN,GN];exact J.dN i (by simpa using a)
 rw[List.pairwise_map] at h ⊢;exact h.filter _
structure PF (s:aX) (st:cg) (j:aD):Prop where
 has:(∃a∈st.aj,a.bz=j.Id)↔tB j=true
 RL:∀a∈st.aj,a.bz=j.Id->vq s st j a
theorem Pw{s:aX}{st:cg}(k:bn s)(J:cr s st)(A:eT s st):Ou s st/\∀j∈st.an,PF s st j:=by
 obtain ⟨h,t⟩:=vL A k.nodes.ok;have q:=BV J;rw[<-h] at q;have Hw:∀j∈st.an,∀f∈st.an,j.Id=f.Id->j=f:=λj d f b e=>by obtain ⟨m,l,rfl⟩:=tE d;obtain ⟨w,n,rfl⟩:=tE b;have:=J.dN.inj l n e;subst this;rfl
 refine ⟨⟨λi r=>?_,t⟩,λj d=>⟨⟨λ⟨a,g,e⟩=>?_,λu=>?_⟩,λa g e=>?_⟩⟩
 ·obtain ⟨j,d,P⟩:=A.mem _ (bZ r);refine ⟨λm l e=>?_,⟨j,d,P.EU.symm⟩,P.DO.shares,by rw[P.cO];exact (J.each j d).ok.cO⟩;have:=Yh.1 q m i (by simpa using l) (by simpa using r) (by omega);simpa using this
 ·have:a.bz∈st.aj.map (·.bz):=gZ.2 ⟨a,g,rfl⟩;rw[h] at this;obtain ⟨f,b,v⟩:=gZ.1 this;obtain ⟨o,p⟩:=Dv.1 b;have:f=j:=Hw _ o _ d (by rw[v,e]);subst this;exact p
 ·have:j.Id∈(st.an.filter tB).map (·.Id):=gZ.2 ⟨j,Dv.2 ⟨d,u⟩,rfl⟩;rw[<-h] at this;obtain ⟨a,g,e⟩:=gZ.1 this;exact ⟨a,g,e⟩
 ·obtain ⟨f,b,P⟩:=A.mem a g;have:f=j:=Hw _ b _ d (by rw[<-P.EU,e]);subst this;exact P
theorem XI{s:aX}{st:cg}(k:bn s)(J:cr s st)(R:Ou s st)(h:∀j∈st.an,PF s st j):eT s st:=by
 have l:(st.aj.map (·.bz)).Pairwise (·<·):=Ib λi f=>by rw[GN,GN];exact (R.each (i+1) (by simpa using f)).up i (by simp at f;omega) rfl
 refine Ey (n:=s.aw.length) (WJ l (BV J) λx=>⟨λg=>?_,λg=>?_⟩) k.nodes.ok (λa d j b e=>(h j (Dv.1 b).1).RL a d e) R.SO R.fit
 ·obtain ⟨a,d,rfl⟩:=gZ.1 g;obtain ⟨i,f,rfl⟩:=tE d;obtain ⟨j,b,e⟩:=(R.each i f).EU;exact gZ.2 ⟨j,Dv.2 ⟨b,(h j b).has.1 ⟨_,d,e.symm⟩⟩,e⟩
 ·obtain ⟨j,b,rfl⟩:=gZ.1 g;obtain ⟨a,d,e⟩:=(h j (Dv.1 b).1).has.2 (Dv.1 b).2;exact gZ.2 ⟨a,d,e⟩
end Go.Plain
end
section
namespace Go.Plain
open Go.Abs
theorem Xq{X R:Type}{r:X->Option R}{c:Prop}[Decidable c]{a b:X}:jn r (λj=>if c then j a else j b)=r (if c then a else b):=by unfold jn;split <;> rfl
theorem IQ{l:List jY}{n:Int}(h:bB l n){i:Int}:ja l i > 0↔∃x∈l,x.Node=i:=by
 have b:∀x∈l,1<=x.aZ:=λx a=>(h.mem x a).2.2.1;clear h;induction l with
 |nil=>simp[ja]
 |cons y l ih=>
  have d:=ih λx a=>b x (kE _ a);have k:=b y (li ..);have m:=yH (l:=l) (λx a=>by have:=b x (kE _ a);omega) i;have e:ja (y::l) i=(if y.Node=i then y.aZ else 0)+ja l i:=by simp[ja]
  rw[e];constructor
  ·intro j;by_cases f:y.Node=i
   ·exact ⟨y,li ..,f⟩
   ·rw[if_neg f] at j;obtain ⟨x,a,e⟩:=d.1 (by omega);exact ⟨x,kE _ a,e⟩
  ·rintro ⟨x,a,g⟩;rcases dO.1 a with rfl | a
   ·rw[if_pos g];omega
   ·have:=d.2 ⟨x,a,g⟩;split <;> omega
def ue(st:cg)(node b:Int)(a:cn):Prop:=∃j∈st.an,j.Id=a.bz/\(∃x∈a.aq,x.Node=node)/\b<j.Start+j.dY
theorem KX{s:aX}{st:cg}(w:kk s st)(R:Ou s st)(node d:Int):bp (zcC 5000 st node d) λb=>cr s st->(b=true↔∃a∈st.aj,ue st node d a):=by
 have P:=w.cd;have N:=w.cu;unfold zcC;refine tH st.aj (λi a=>cr s st->¬ue st node d a) (λi f t K y=>?_) (λf K=>?_) (by omega)
 ·simp only[kh,cG t,if_true,bY t,Option.bind_some,bF (show i<1000000 by omega)];have u:=bZ t;refine (lF (by omega) st.aj[i].bz).bind λr o=>?_;rw[aR];refine ⟨λh=>?_,λh=>?_⟩
  ·simp only[aM] at h;have k:=o.2.1 h;have S:=(R.each i t).shares;obtain ⟨L,e⟩:=cS (l:=st.an) k.lo (by have:=k.lo;have:=k.hi;omega);have z:=bZ L;have fin:bp (if decide (IntKind.i64.wrap (st.an[r.toNat].Start+st.an[r.toNat].dY) > d)=true then some true else f ((i+1:Nat):Int)) (λb=>(∃x∈st.aj[i].aq,x.Node=node)->cr s st->(b=true↔∃a∈st.aj,ue st node d a)):=by
    rw[aR];refine ⟨λg=>?_,λg=>?_⟩
    ·rw[aP];intro E J;have p:=(J.each _ z).ok;have:=p.start;have:=p.wall;rw[wr (by omega) (by omega)] at g;simp only[aM] at g;exact ⟨λ_=>⟨_,u,_,z,k.is,E,g⟩,λ_=>rfl⟩
    ·refine (y λJ F=>?_).mono λb G _=>G;obtain ⟨j,n,v,-,M⟩:=F;have:j=st.an[r.toNat]:=by
      obtain ⟨m,O,rfl⟩:=tE n;have:=J.dN.inj O L (by rw[v,k.is]);subst this;rfl
     subst this;have p:=(J.each _ z).ok;have:=p.start;have:=p.wall;rw[wr (by omega) (by omega)] at g;simp only[aM] at g;omega
   rw[NG (jI (w.shares _ u) (by decide)) S,aF,e,aR];simp only[Option.bind_some];refine ⟨λg=>?_,λg=>?_⟩
   ·simp only[aM] at g;exact fin.mono λb G=>G ((IQ S).1 g)
   ·simp only[aM] at g;rw[if_neg (by simp)];exact y λJ ⟨j,n,v,q,M⟩=>g ((IQ S).2 q)
  ·simp only[aM] at h;rw[if_neg (by simp)];exact y λJ ⟨j,n,v,q,M⟩=>by have:=o.1.2 ⟨j,n,v⟩;omega
 ·simp only[c_,aV,bm,aP,wZ];rintro J ⟨a,u,F⟩;exact zY (A:=λa=>cr s st->¬ue st node d a) K a u J F
theorem LV{s:aX}{st:cg}(z:kk s st)(R:Ou s st):bp (zcI 5000 s st) λb=>cr s st->(b=true↔ye s st):=by
 have A:=z.ng;unfold zcI;refine tH st.bI (λi b=>(b.Id<st.ib/\st.fL<b.To)/\(cr s st->¬∃a∈st.aj,ue st b.Node b.dR a)) (λi f k l n=>?_) (λf l=>?_) (by omega)
 ·simp only[kh,cG k,if_true,bY k,Option.bind_some,bF (show i<1000000 by omega)];have d:=bZ k;rw[aR];refine ⟨λh=>?_,λh=>?_⟩
  ·rw[aP];intro J;simp only[dQ,aM] at h;simp only[aV,wZ];exact λq=>by have:=q.live _ d;omega
  ·simp only[dQ,aM] at h;refine (KX z R _ _).bind λr g=>?_;rw[aR];refine ⟨λo=>?_,λo=>n ⟨by omega,λJ=>λq=>o ((g J).2 q)⟩⟩;rw[aP];intro J;simp only[aV,wZ];intro q;obtain ⟨a,p,j,t,e,⟨x,u,v⟩,w⟩:=(g J).1 o;exact q.Vr a p j t e x u _ d v.symm w
 ·simp only[c_,aV,bm];refine (Qh _ _ (by omega)).bind λr n=>?_;rw[aP];intro J;rw[n];refine ⟨λh=>⟨h,λb d=>?_,λa p j t e x u b d v w=>?_⟩,λq=>q.ng⟩
  ·obtain ⟨m,y,rfl⟩:=tE d;exact (l m y).1
  ·obtain ⟨m,y,rfl⟩:=tE d;exact (l m y).2 J ⟨a,p,j,t,e,⟨x,u,v.symm⟩,w⟩
structure AtA (l:List cn) (id:Int) (r:Int):Prop where
 lo:0<=r
 hi:r.toNat<l.length
 is:l[r.toNat].bz=id
theorem Li{l:List cn}(g:l.length<=300)(id:Int):bp (zc3 5000 l id) λr=>(0<=r↔∃a∈l,a.bz=id)/\(0<=r->AtA l id r):=by
 unfold zc3;refine tH l (λ_ j=>j.bz≠id) (λi f h _ b=>?_) (λf h=>?_) (by omega)
 ·simp only[cG h,if_true,bY h,Option.bind_some,bF (show i<1000000 by omega),aR,aP,oQ];exact ⟨λe=>⟨⟨λ_=>⟨_,bZ h,e⟩,λ_=>by omega⟩,λ_=>⟨by omega,by simpa using h,by simpa using e⟩⟩,λe=>b e⟩
 ·simp only[c_,aV,bm,aP];refine ⟨⟨λh=>by omega,λ⟨j,d,e⟩=>absurd e (zY (A:=λj=>j.bz≠id) h j d)⟩,λh=>by omega⟩
theorem Ou.Hw{s:aX}{st:cg}(R:Ou s st){i j:Nat}(o:i<st.aj.length)(x:j<st.aj.length)(e:st.aj[i].bz=st.aj[j].bz):i=j:=by
 have u:(st.aj.map (·.bz)).Pairwise (·<·):=Ib λi o=>by rw[GN,GN];exact (R.each (i+1) (by simpa using o)).up i (by simp at o;omega) rfl
 rw[Yh] at u;rcases Yx i j with h | h | h
 ·have:=u i j (by simpa using o) (by simpa using x) h;rw[GN,GN] at this;omega
 ·exact h
 ·have:=u j i (by simpa using x) (by simpa using o) h;rw[GN,GN] at this;omega
structure Hu (s:aX) (st:cg) (j:aD):Prop where
 Jq:Ak s st j
 waits:DZ s st j
 has:PF s st j
theorem Q_{s:aX}(k:bn s){st:cg}(y:kk s st)(R:Ou s st){j:aD}(Z:j∈st.an):dL (zdt 5000 s st j) (Hu s st j):=by
 have kv:=k.tQ;have hl:=y.cd;have M:=y.cu;unfold zdt;refine (zU j (y.after j Z)).bind λr E=>?_;rw[aR];refine ⟨λh=>bR λq=>?_,λh=>?_⟩
 ·have:=E.2 q.Jq.ok;rw[this] at h;simp only[dQ,aM,Dm,aV,false_or] at h;have:=q.Jq.next;have:=q.Jq.user;have:=q.Jq.queue;have:=q.Jq.born;have:=q.Jq.start;have:=q.Jq.fin;omega
 ·simp only[dQ,aM,not_or,fJ,kO] at h;have v:=E.1 h.1.1.1.1.1.1;have ad:=v.state.st;have af:=v.start;have ak:=v.wall;simp only[Xq];generalize he:(if decide (j.State≥5)=true then (3:Int) else if (j.State == 4)=true then 2 else if (j.State == 3)=true then 1 else 0)=e;have ev:e=kL j.State:=by
   rw[<-he];simp only[kL,aM,oQ,ge_iff_le];split
   ·split <;> (try split) <;> (try split) <;> omega
   ·split
    ·split <;> (try split) <;> omega
    ·split <;> (try split) <;> (try split) <;> omega
  have eb:=E_ j.State;refine (Li M j.Id).bind λT o=>?_;simp only[kh,zdB,Option.bind_some];rw[ev,wr (x:=s.aK+kL j.State) (by omega) (by omega),aR];refine ⟨λN=>bR λq=>?_,λN=>?_⟩
  ·have:=q.Jq.version;simp only[aM] at N;omega
  ·simp only[aM] at N;have I:Ak s st j:=⟨v,by omega,by omega,by omega,by omega,by omega,by omega,by omega⟩;have eh:((j.State == 3) || (j.State == 4))=tB j:=rfl;rw[eh,aR];refine ⟨λz=>bR λq=>?_,λz=>?_⟩
   ·have:=q.has.has;rw[<-o.1] at this;cases w:tB j with
    |true=>have t:=this.2 w;simp[w] at z;omega
    |false=>
     have t:¬0<=T:=λt=>by have:=this.1 t;rw[w] at this;cases this
     simp[w] at z;omega
   ·have f:(∃a∈st.aj,a.bz=j.Id)↔tB j=true:=by
     rw[<-o.1];cases w:tB j with
     |true=>simp[w] at z;simp[z]
     |false=>simp[w] at z;simp;omega
    rw[aR];refine ⟨λO=>lQ ?_,λO=>?_⟩
    ·simp only[aM] at O;refine ⟨I,λhs=>by omega,f,λa A e=>?_⟩;have:=TP (f.1 ⟨a,A,e⟩);omega
    ·simp only[aM] at O;have A:=v.uW;refine tH j.aA (λ_ d=>∃i∈st.an,i.Id=d.bz) (λm g F U hr=>?_) (λg U=>?_) (by omega)
     ·simp only[cG F,if_true,bY F,Option.bind_some,bF (show m<1000000 by omega)];refine (lF (by omega) j.aA[m].bz).bind λr G=>?_;rw[aR];refine ⟨λu=>bR λq=>?_,λu=>hr (G.1.1 ?_)⟩
      ·have:=G.1.2 ((q.waits (by omega)).after _ (bZ F));simp only[aM] at u;omega
      ·simp only[aM] at u;omega
     ·simp only[c_,aV,bm];obtain ⟨b,X,e2⟩:=JM y.spec k (q:=j.Queue) (m:=j.aZ) v.cO v.Il;rw[e2,aF,aR];refine ⟨λu=>bR λq=>?_,λu=>?_⟩
      ·have:=(q.waits (by omega)).fits;rw[X] at this;simp only[ab] at this;subst this;simp at u
      ·simp only[fJ,kO] at u;subst u;have W:DZ s st j:=λ_=>⟨X,zY U⟩;rw[aR];refine ⟨λK=>lQ ⟨I,W,f,λa A e=>?_⟩,λK=>?_⟩
       ·have:=f.1 ⟨a,A,e⟩;rw[this] at K;simp at K
       ·simp only[fJ,kO] at K;have r0:=o.1.2 (f.2 K);have n:=o.2 r0;obtain ⟨Y,e3⟩:=cS (l:=st.aj) n.lo (by have:=n.lo;have:=n.hi;omega);have p:=bZ Y;rw[wr (x:=j.Start+j.dY) (by omega) (by omega),e3,aR];simp only[Option.bind_some];refine ⟨λL=>?_,λL=>bR λq=>?_⟩
        ·simp only[aM] at L;rw[aR];refine ⟨λP=>?_,λP=>bR λq=>P (gz.2 (q.has.RL _ p n.is).cO)⟩;have eN:=gz.1 P;refine (Qp y.spec k j _ (jI (y.shares _ p) (by decide))).bind λr Q=>?_;rw[aP,Q];refine ⟨λS=>⟨I,W,f,λa A e=>?_⟩,λq=>(q.has.RL _ p n.is).DO⟩;have:a=st.aj[T.toNat]:=by
          obtain ⟨m,F,rfl⟩:=tE A;have:=R.Hw F Y (by rw[e,n.is]);subst this;rfl
         subst this;exact ⟨e,eN,S,L⟩
        ·have:=(q.has.RL _ p n.is).now;simp only[aM] at L;omega
theorem AS{s:aX}{st:cg}(d:kk s st):dL (ZJ 5000 s st) (Gw s st):=by
 have hl:=d.cd;have hq:=d.stamps;have S:=d.use;unfold ZJ;simp only[kh];refine (Le s d.spec).bind λr l=>?_;rw[aR];refine ⟨λh=>?_,λh=>?_⟩
 ·rw[if_pos trivial];refine bR λq=>?_;have:=l.2 q.spec;rw[this] at h;have T:=q.spec.ids;have:=q.Ka.now;have:=q.Ka.next;have:=q.Ka.book;rw[wr (x:=s.tc+1) (by omega) (by omega)] at h;simp only[dQ,aM,Dm,aV,false_or] at h;omega
 ·simp only[dQ,aM,not_or,fJ,kO] at h;have k:=l.1 h.1.1.1.1.1;have T:=k.ids;rw[wr (x:=s.tc+1) (by omega) (by omega)] at h;refine (Cc st.ib).bind λr2 n=>?_;rw[aR];refine ⟨λo=>bR λq=>?_,λo=>?_⟩
  ·have:=n.2 (by have:=q.Ka.book;omega);rw[this] at o;simp at o
  ·simp only[fJ,kO] at o;have u2:=n.1 o;have W:Gv s st:=⟨by omega,by omega,by omega⟩;rw[aR];refine ⟨λM=>?_,λM=>?_⟩
   ·rw[if_pos trivial];refine bR λq=>?_;have:=q.cd.len;simp only[aM] at M;omega
   ·simp only[aM] at M;refine (HO d).bind λr4 p=>?_;rw[aR];refine ⟨λt=>?_,λt=>?_⟩
    ·rw[if_pos trivial];refine bR λq=>?_;have:=p.2 (Pw k q.cd q.cu).1;rw[this] at t;simp at t
    ·simp only[fJ,kO] at t;have R:=p.1 t;refine (LV d R).bind λr5 u=>?_;rw[aR];refine ⟨λv=>?_,λv=>?_⟩
     ·rw[if_pos trivial];refine bR λq=>?_;have:=(u q.cd).2 q.MC;rw[this] at v;simp at v
     ·simp only[fJ,kO] at v;refine (Uz st.iW s.aT (by omega)).bind λr6 w=>?_;rw[aR];refine ⟨λy=>?_,λy=>?_⟩
      ·rw[if_pos trivial];refine bR λq=>?_;have:=w.2 ⟨q.use.len,q.use.use⟩;rw[this] at y;have:=q.use.ZQ;simp only[dQ,zC,ne_eq,Dm,aV,false_or] at y;omega
      ·simp only[dQ,zC,ne_eq,not_or,KM,fJ,kO] at y;have Q:=w.1 y.1;refine (Cc st.aG.aw).bind λr7 z=>?_;rw[aR];refine ⟨λA=>bR λq=>?_,λA=>?_⟩
       ·have:=z.2 q.use.nodes;rw[this] at A;simp at A
       ·simp only[fJ,kO] at A;have X:=z.1 A;refine tH st.aG.ah (λ_ x=>0<=x/\x<=281474976710656) (λi f a _ K=>?_) (λf Y=>?_) (by omega)
        ·simp only[cG a,if_true,bY a,Option.bind_some,bF (show i<1000000 by omega)];refine (Cc _).bind λr8 E=>?_;rw[aR];refine ⟨λL=>bR λq=>?_,λL=>K (E.1 (by simpa using L))⟩;have:=E.2 (q.use.stamps _ (bZ a));rw[this] at L;simp at L
        ·simp only[c_,aV,bm];have U:Pu s st:=⟨Q.1,Q.2,by omega,X,zY Y⟩;refine tH st.an (λi j=>Hu s st j/\Cs st.an i<j.Id) (λi f a _ K=>?_) (λf N=>?_) (by omega)
         ·have hd:decide ((i:Int) > 0)=decide (0<i):=by simp
          have b:=bZ a;simp only[cG a,if_true,bY a,Option.bind_some,bF (show i<1000000 by omega),hd];refine (Q_ k d R b).bind λr9 F=>?_;rw[aR];refine ⟨λG=>bR λq=>?_,λG=>?_⟩
          ·have:=F.2 ⟨q.cd.each _ b,q.waits _ b,(Pw k q.cd q.cu).2 _ b⟩;rw[this] at G;simp at G
          ·simp only[fJ,kO] at G;have O:=F.1 G;rw[aR];refine ⟨λe=>?_,λe=>?_⟩
           ·simp only[aM] at e;obtain ⟨m,rfl⟩:∃m,i=m+1:=⟨i-1,by omega⟩;rw[ZV (show m+1<1000000 by omega),bY (show m<st.an.length by omega),aF,aR];refine ⟨λg=>bR λq=>?_,λg=>K ⟨O,?_⟩⟩
            ·have:=q.cd.dN m a;simp only[aM] at g;omega
            ·rw[qI (by omega)];simp only[aM] at g;omega
           ·simp only[aM] at e;have:i=0:=by omega
            subst this;refine K ⟨O,?_⟩;have:=O.Jq.ok.id;simp only[Cs];omega
         ·simp only[c_,aV,bm];have P:cr s st:=IY (by omega) λi a=>⟨(N i a).1.Jq,(N i a).2⟩;have all:∀j∈st.an,Hu s st j:=λj b=>by
           obtain ⟨m,Z,rfl⟩:=tE b;exact (N m Z).1
          exact lQ ⟨k,W,P,λj b=>(all j b).waits,XI k P R λj b=>(all j b).has,(u P).1 v,U⟩
end Go.Plain
end
section
namespace Go.Plain
open Go.Abs
theorem mo{l:List Int}(h:l.length<=1000000):YE 5000 l=some l:=by unfold YE;exact FZ h
theorem xf{s:aX}(hs:iC s):Wx 5000 s=some s:=by
 have g:=hs.nodes;have h:=hs.parts;have j:=hs.lq;unfold Wx;rw[Aq (by omega),aF,show zbN 5000 s.aL=some s.aL from FZ (by omega),aF];refine bp.eq (uP s.aL.length (λi x=>x=((i:Int),s.aL)) (λi x f a b d=>?_) (λx f b=>?_) rfl (by omega))
 ·subst b;have e:=hs.part _ (bZ a);simp only[cG a,if_true,bY a,Option.bind_some,bF (show i<1000000 by omega),mo (show s.aL[i].length<=1000000 by omega),Int.toNat_natCast,yBK];exact d _ rfl
 ·subst b;simp only[c_,aV,bm];rw[show zaR 5000 s.ah=some s.ah from FZ (by omega),aF];refine uP s.ah.length (λi x=>x=((i:Int),s.ah)) (λi x f a b d=>?_) (λx f b=>?_) rfl (by omega)
  ·subst b;have e:=hs.queue _ (bZ a);simp only[cG a,if_true,bY a,Option.bind_some,bF (show i<1000000 by omega),mo (show s.ah[i].aT.length<=1000000 by omega),Int.toNat_natCast,yBK];exact d _ (Prod.ext rfl (yBK a))
  ·subst b;simp only[c_,aV,bm,aP]
theorem Ky{n:Int}(h:1<=n/\n<=8):lY 5000 n=some (List.replicate n.toNat 0):=by simp only[lY,QK];rw[if_neg (by simp;omega),if_neg (by simp;omega)];simp only[Option.bind_some,Ms];rw[if_pos (by omega)];rfl
theorem Lo{n:Int}(h:1<=n/\n<=256):YK 5000 n=some (.inr n):=by simp only[YK];rw[if_neg (by simp;omega)]
theorem Xp{s:aX}(hs:iC s)(k:bn s):dH 5000 s=some (.inr (List.replicate s.ah.length 0,[],s.aw,s.aL,s.ah,s.aT,s.ae.oJ,s.ae.cQ,s.ae.iy,s.ae.bJ,s.cF,s.Mode,s.an,s.tc,s.aK,s.bL,s.ia,s.In,s.Out,s.cD,0,1,1,List.replicate s.aT.toNat 0,0,s.an,s.aw)):=by have a:=hs.lq;unfold dH;rw[Am hs k,aF,if_neg (by simp),Lo k.cd,aF];dsimp only;rw[yg hs k,aF];dsimp only;rw[xf hs,aF,Ky k.Bg,aF];unfold Ms;rw[if_pos (by omega),aF];rw[Int.toNat_natCast]
theorem IJ{j:aD}(h:j.aA.length<=1000000):lN 5000 j=some j:=by unfold lN;rw[show zaE 5000 j.aA=some j.aA from FZ h];rfl
theorem EM{l:List aD}(g:l.length<=300)(d:∀j∈l,j.aA.length<=10):zbZ 5000 l=some l:=by
 unfold zbZ;rw[show za6 5000 l=some l from FZ (by omega),aF];refine bp.eq (uP l.length (λi x=>x=((i:Int),l)) (λi x f a b e=>?_) (λx f b=>?_) rfl (by omega))
 ·subst b;have h:=d _ (bZ a);simp only[cG a,if_true,bY a,Option.bind_some,bF (show i<1000000 by omega),IJ (show l[i].aA.length<=1000000 by omega),Int.toNat_natCast,yBK];exact e _ rfl
 ·subst b;simp only[c_,aV,bm,aP]
def mapA(A:List cn):List (Int×cn):=A.map λa=>(a.bz,a)
def GZ(A:List cn):Prop:=(A.map (·.bz)).Pairwise (·<·)
theorem Pf{A:List cn}(h:GZ A):∀i (b:i<A.length),cq (mapA A) A[i].bz=some A[i]:=by
 induction A with
 |nil=>intro i b;simp at b
 |cons a A ih=>
  unfold GZ at h;rw[mb,yBW] at h;intro i b
  match i,b with
  |0,b=>simp[mapA,cq]
  |i + 1, b=>
   have d:i<A.length:=by simpa using b
   have:=h.1 A[i].bz (gZ.2 ⟨_,bZ d,rfl⟩);have e:cq (mapA (a::A)) A[i].bz=cq (mapA A) A[i].bz:=by simp only[mapA,mb,cq];rw[if_neg (by omega)]
   rw[List.getElem_cons_succ,e];exact ih h.2 i d
theorem KY{A:List cn}{q:Int}(h:∀a∈A,a.bz≠q):cq (mapA A) q=none:=by
 induction A with
 |nil=>rfl
 |cons a A ih=>simp only[mapA,mb,cq];rw[if_neg (h a (li ..))];exact ih λb d=>h b (kE _ d)
theorem Nb{A:List cn}{a:cn}(h:∀b∈A,b.bz≠a.bz):kj (mapA A) a.bz a=mapA (A++[a]):=by
 induction A with
 |nil=>rfl
 |cons b A ih=>have:=ih λc d=>h c (kE _ d);simp only[mapA,List.cons_append,mb,kj] at this ⊢;rw[if_neg (h b (li ..)),this]
theorem Ze{n:Int}(h:0<=n/\n<=1048576):(Lit.int .i64 n).wf=true:=by
 have a:IntKind.i64.min=-9223372036854775808:=by decide
 have b:IntKind.i64.max=9223372036854775807:=by decide
 simp only[Lit.wf,aU,aM,a,b];omega
theorem Cu{A:List cn}(l:A.length<=300)(h:GZ A)(b:∀a∈A,0<=a.bz/\a.bz<=1048576):An (λk=>k) (mapA A)=some (A.map (·.bz)):=by
 have e:(mapA A).map Prod.fst=A.map (·.bz):=by simp[mapA]
 unfold An;have d:∀p∈mapA A,(Lit.int .i64 p.1).wf=true:=λp f=>by obtain ⟨a,g,rfl⟩:=gZ.1 f;exact Ze (b a g)
 have i:(A.map (·.bz)).Nodup:=h.imp λh=>by omega
 have j:(mapA A).length<=1000000:=by simp[mapA];omega
 rw[e,if_pos ⟨j,i,d⟩,List.mergeSort_of_pairwise (h.imp λh=>by simp;omega)];simp
theorem yI{A:List cn}(j:A.length<=300)(h:GZ A)(k:∀a∈A,0<=a.bz/\a.bz<=1048576)(hs:∀a∈A,a.aq.length<=300):Yr 5000 (mapA A)=some A:=by
 unfold Yr;rw[Cu j h k,aF];refine bp.eq (uP (A.map (·.bz)).length (λi x=>x=((i:Int),A.take i)) (λi x f d g l=>?_) (λx f g=>?_) (by simp) (by simp;omega))
 ·subst g;have b:i<A.length:=by simpa using d
  have e:=Pf h i b;have m:=hs _ (bZ b);simp only[cG d,if_true,bY d,Option.bind_some,bF (show i<1000000 by omega),GN,e,Zh,Az (show A[i].aq.length<=1000000 by omega)];rw[mu (by rw[zp];simp;omega),aF];exact l _ (by rw[RW b])
 ·subst g;simp only[c_,aV,bm,aP,vN,Mw]
theorem vR{l:List lz}(h:l.length<=1000000):zaz 5000 l=some l:=by unfold zaz;exact FZ h
theorem Tv(a:y_):y_.beq a a=true:=by simp[y_.beq]
theorem J_(a:jY):jY.beq a a=true:=by simp[jY.beq]
theorem Pc(a:lz):lz.beq a a=true:=by simp[lz.beq]
theorem EC(a:aN):aN.beq a a=true:=gz.2 rfl
theorem Yg{α:Type}{b:(Int->Option Bool)->Int->Option Bool}(l:List α)(hs:∀(i:Nat)(f:Int->Option Bool)(h:i<l.length),b f (i:Int)=f ((i+1:Nat):Int))(a:∀f,b f (l.length:Int)=some true){N:Nat}(d:l.length<N):bg b N 0=some true:=
 bp.eq (tH l (λ_ _=>True) (λi f h _ e=>by rw[hs i f h];exact e trivial) (λf _=>by rw[a];exact ⟨_,rfl,rfl⟩) d)
theorem qE(l:List Int)(a:l.length<=300):zcf 5000 l l=some true:=by
 unfold zcf;rw[if_neg (by simp)];refine Yg l (λi f h=>?_) (λf=>?_) (by omega)
 ·simp only[cG h,if_true,bY h,Option.bind_some,bF (show i<1000000 by omega),yBZ,aV,bm]
 ·simp only[c_,aV,bm]
theorem MG(j:aD)(a:j.aA.length<=300):zc2 5000 j j=some true:=by
 unfold zc2;rw[if_neg (by simp)];refine Yg j.aA (λi f h=>?_) (λf=>?_) (by omega)
 ·simp only[cG h,if_true,bY h,Option.bind_some,bF (show i<1000000 by omega),Tv,Dm,aV,bm]
 ·simp only[c_,aV,bm,YN,EC,Bool.and_self]
theorem vk(l:List aD)(b:l.length<=300)(a:∀j∈l,j.aA.length<=10):YP 5000 l l=some true:=by
 unfold YP;rw[if_neg (by simp)];refine Yg l (λi f h=>?_) (λf=>?_) (by omega)
 ·have:=a _ (bZ h);simp only[cG h,if_true,bY h,Option.bind_some,bF (show i<1000000 by omega),MG l[i] (by omega),Dm,aV,bm]
 ·simp only[c_,aV,bm]
theorem DS(l:List jY)(a:l.length<=300):zc9 5000 l l=some true:=by
 unfold zc9;rw[if_neg (by simp)];refine Yg l (λi f h=>?_) (λf=>?_) (by omega)
 ·simp only[cG h,if_true,bY h,Option.bind_some,bF (show i<1000000 by omega),J_,Dm,aV,bm]
 ·simp only[c_,aV,bm]
theorem vY(l:List cn)(d:l.length<=300)(b:∀a∈l,a.aq.length<=300):zdc 5000 l l=some true:=by
 unfold zdc;rw[if_neg (by simp)];refine Yg l (λi f h=>?_) (λf=>?_) (by omega)
 ·have:=b _ (bZ h);simp only[kh,cG h,if_true,bY h,Option.bind_some,bF (show i<1000000 by omega),yBZ,EC,DS l[i].aq this,Dm,aV,bm]
 ·simp only[c_,aV,bm]
theorem zm(l:List lz)(a:l.length<=300):zda 5000 l l=some true:=by
 unfold zda;rw[if_neg (by simp)];refine Yg l (λi f h=>?_) (λf=>?_) (by omega)
 ·simp only[cG h,if_true,bY h,Option.bind_some,bF (show i<1000000 by omega),Pc,Dm,aV,bm]
 ·simp only[c_,aV,bm]
theorem GH{s:aX}{st:cg}(a:kk s st):Wo 5000 st st=some true:=by have b:=a.cd;have d:=a.use;have e:=a.stamps;have f:=a.ng;unfold Wo;rw[if_pos (by simp),vk _ (by omega) a.after,aF,if_pos rfl,vY _ a.cu a.sh,aF,if_pos rfl,zm _ (by omega),aF,if_pos rfl,qE _ (by omega),aF,if_pos rfl,qE _ (by omega),aF];simp
end Go.Plain
end
section
namespace Go.Plain
open Go.Abs
theorem Ft{l:List aD}(h:cB l)(n:Nat):cB (l.take n):=λi a=>by rw[zp] at a;rw[UT,UT];exact h i (by omega)
theorem MJ{l:List aD}(k:l.length<=300)(hs:cB l){id:Int}(h:∀j∈l,j.Id<id):YR 5000 l id=some ((l.length:Int),false):=by
 unfold YR;have e:(bg (λd (b:Int×Int)=>
   if (decide (b.1<b.2))=true then
    (
     (au l (IntKind.i64.wrap (Int.fdiv (IntKind.u64.wrap (IntKind.i64.wrap (b.1+b.2))) (2 ^ 1)))).bind λm=>
     some (decide (m.Id≥id))).bind λn=>
    if (!n)=true then
     d ((IntKind.i64.wrap ((IntKind.i64.wrap (Int.fdiv (IntKind.u64.wrap (IntKind.i64.wrap (b.1+b.2))) (2 ^ 1)))+1)),b.2)
    else
     d (b.1,(IntKind.i64.wrap (Int.fdiv (IntKind.u64.wrap (IntKind.i64.wrap (b.1+b.2))) (2 ^ 1))))
   else
    some b.1) 5000 (0,(l.length:Int)))=some (l.length:Int):=by
  refine bp.eq (half k hs id (λj=>some (decide (j.Id<id))) (λj r=>rfl) (λi=>some i) (λi o s p=>?_) _ (λf x=>?_))
  ·rw[aP];rcases FU o with q | q
   ·have:=p i q (bQ _);have:=h _ (bZ q);omega
   ·rw[q]
  ·split
   ·cases au l (IntKind.i64.wrap (Int.fdiv (IntKind.u64.wrap (IntKind.i64.wrap (x.1+x.2))) (2 ^ 1))) with
    |none=>rfl
    |some a=>
     simp only[Option.bind_some,fJ,UO,aM];by_cases g:a.Id<id
     ·rw[if_pos g,if_pos (by omega)]
     ·rw[if_neg g,if_neg (by omega)]
   ·rfl
 rw[e,aF,c_,if_neg (by simp)]
theorem WT{l:List aD}{n:Nat}(b:n<l.length)(g:l.length<=300)(hs:cB l){m:Int}(hm:(l.length:Int)<=m)(a:jL l[n]):ZX 5000 (l.take n) l[n] m=some (l.take (n+1),0):=by
 obtain ⟨r,e,h⟩:=AF l[n];have f:=h.2 a;subst f;have k:=a.uW;have d:(l.take n).length=n:=by rw[zp];omega
 unfold ZX;rw[e,aF,if_neg (by simp),MJ (by omega) (Ft hs n) (λj a=>?_),aF]
 ·rw[if_neg (by simp),if_neg (by rw[d];simp;omega),IJ (by omega),aF];unfold zaC;have sl:slice? (l.take n) ((l.take n).length:Int) ((l.take n).length:Int)=some []:=by
   unfold slice?;rw[if_pos ⟨by omega,by omega,by omega⟩];simp
  rw[sl,aF,if_neg (by simp),if_pos (by simp),mu (by rw[d];simp;omega),aF,aF,RW b]
 ·obtain ⟨i,o,rfl⟩:=tE a;rw[UT];exact hs.lt (by omega) b
def DP(F:List aN)(l:List cn):List aN:=l.foldl rY F
structure TInv (s:aX) (st:cg) (i:Nat) (x:Int×(List aN)×List (Int×cn)):Prop where
 ix:x.1=(i:Int)
 h:∃H,gy s st H (st.aj.drop i) x.2.1
 len:x.2.1.length=s.aw.length
 vec:∀r∈x.2.1,bo r
 m:x.2.2=mapA (st.aj.take i)
 fr:x.2.1=DP s.aw (st.aj.take i)
theorem Gx{s:aX}{st:cg}(q:Gw s st):GZ st.aj:=by have h:=(vL q.cu q.spec.nodes.ok).1;unfold GZ;rw[h];exact BV q.cd
theorem AX{s:aX}{st:cg}(q:Gw s st):∀a∈st.aj,0<=a.bz/\a.bz<=1048576:=λa b=>by obtain ⟨j,d,P⟩:=q.cu.mem a b;have:=(q.cd.each j d).ok.id;have:=P.EU;omega
theorem ZF{s:aX}{st:cg}(g:kk s st)(q:Gw s st):XT 5000 s st=some (.inr (st.aG.ah,st.an,(st.aj.map λa=>(a.bz,a)),s.aw,s.aL,s.ah,s.aT,s.ae.oJ,s.ae.cQ,s.ae.iy,s.ae.bJ,s.cF,s.Mode,s.an,s.tc,s.aK,s.bL,s.ia,s.In,s.Out,s.cD,st.fL,st.Next,st.ib,st.bI,st.iW,st.aG.aw,s.an,DP s.aw st.aj)):=by
 have U:=g.cd;have W:=g.cu;have hn:=g.spec.nodes;have R:=g.ng;have hu:=g.use;have hs:=g.stamps;obtain ⟨r,e,h⟩:=ES g;have l:=h.2 q;subst l;have X:=q.cd.len;have G:=Gx q;unfold XT;rw[e,aF,if_neg (by simp),Xp g.spec q.spec,aF];dsimp only;refine bp.eq ?_;refine uP st.an.length (λi x=>x=((i:Int),st.an.take i)) (λi x f d n l=>?_) (λx f n=>?_) rfl (by omega)
 ·subst n;simp only[cG d,if_true,bY d,Option.bind_some,bF (show i<1000000 by omega),WT d U q.cd.dN X (q.cd.each _ (bZ d)).ok,yBZ,aV,bm];exact l _ rfl
 ·subst n;simp only[c_,aV,bm];refine uP st.aj.length (TInv s st) (λi x f d n l=>?_) (λx f n=>?_) ⟨rfl,⟨_,by rw[ZL];exact q.cu⟩,rfl,q.spec.nodes.ok,rfl,rfl⟩ (by omega)
  ·obtain ⟨Y,F,M⟩:=x;obtain ⟨t,y,u,A,p,v⟩:=n;dsimp only at t y u A p v;subst t;have S:=bZ d;have K:=g.sh _ S;obtain ⟨H,L⟩:=y;rw[ZY d] at L;obtain ⟨j,Z,P⟩:=q.cu.mem _ S;have N:=(q.cd.each j Z).ok;have o:wj F st.aj[i]/\∃O,gy s st O (st.aj.drop (i+1)) (rY F st.aj[i]):=by
    cases H with
    |nil=>cases (show st.aj[i]::st.aj.drop (i+1)=[] from L)
    |cons j' O=>obtain ⟨a',A',e',-,hf,l⟩:=L;cases e';exact ⟨hf,O,l⟩
   have k:∀b∈st.aj.take i,b.bz≠st.aj[i].bz:=λb R=>by obtain ⟨m,Q,rfl⟩:=tE R;rw[zp] at Q;rw[UT];have:=Yh.1 G m i (by simp;omega) (by simpa using d) (by omega);rw[GN,GN] at this;omega
   have T:Hv M F st.aj[i]:=⟨by have:=N.id;have:=P.EU;omega,Jp (by have:=N.Ri;have:=P.DO.tot;omega),by rw[u];exact P.DO.shares,by rw[P.cO];exact N.cO,by rw[p];exact KY k,o.1⟩;simp only[cG d,if_true,bY d,Option.bind_some,bF (show i<1000000 by omega)];refine (IE (M:=M) (a:=st.aj[i]) (F:=F) (by omega) K A).bind λr w=>?_;have z:=w.1.2 T;obtain ⟨eM,E⟩:=w.2 z;rw[z];simp only[yBZ,aV,bm];refine l _ ⟨rfl,?_,?_,?_,?_,?_⟩
   ·dsimp only;rw[E.eq];exact o.2
   ·dsimp only;rw[E.eq,iX,u]
   ·dsimp only;rw[E.eq];exact ut o.1
   ·dsimp only;rw[eM,p,Nb k,RW d]
   ·dsimp only;rw[E.eq,v,RW d,DP,DP,List.foldl_append];rfl
  ·obtain ⟨Y,F,M⟩:=x;obtain ⟨t,y,u,A,p,v⟩:=n;dsimp only at t y u A p v;subst t;simp only[c_,aV,bm];rw[show zaH 5000 st.bI=some st.bI from FZ (by omega),aF,show ZN 5000 st.iW=some st.iW from FZ (by omega),aF,show ZN 5000 st.aG.ah=some st.aG.ah from FZ (by omega),aF,aP];rw[p,v,Mw,Mw];rfl
theorem ZW{s:aX}{st:cg}(a:kk s st)(q:¬Gw s st):XT 5000 s st=some (.inl 2):=by
 obtain ⟨r,e,h⟩:=ES a;have:r=false:=by
  cases r with
  |false=>rfl
  |true=>exact absurd (h.1 rfl) q
 unfold XT;rw[e,this];rfl
theorem shown{s:aX}{st:cg}(b:kk s st)(q:Gw s st) :
  Ts 5000 st.aG.ah st.an (st.aj.map λa=>(a.bz,a)) st.fL st.Next st.ib st.bI st.iW st.aG.aw=some st:=by
 have d:=b.cd;have e:=b.ng;have f:=b.use;have hs:=b.stamps;unfold Ts;rw[EM (by omega) b.after,aF,show Yr 5000 (st.aj.map λa=>(a.bz,a))=some st.aj from yI b.cu (Gx q) (AX q) b.sh,aF,vR (by omega),aF,mo (by omega),aF,show zbn 5000 st.aG.ah=some st.aG.ah from FZ (by omega),aF]
theorem Kz{s:aX}{st:cg}(b:kk s st)(q:Gw s st):XY 5000 s st=some (.inr (st.aG.ah,st.an,(st.aj.map λa=>(a.bz,a)),true,s.aw,s.aL,s.ah,s.aT,s.ae.oJ,s.ae.cQ,s.ae.iy,s.ae.bJ,s.cF,s.Mode,s.an,s.tc,s.aK,s.bL,s.ia,s.In,s.Out,s.cD,st.fL,st.Next,st.ib,st.bI,st.iW,st.aG.aw,s.an,DP s.aw st.aj)):=by obtain ⟨r,d,h⟩:=AS b;have e:=h.2 q;subst e;unfold XY;rw[ZF b q,aF];dsimp only;rw[d,aF,if_neg (by simp),shown b q,aF,GH b,aF]
theorem Kh{s:aX}{st:cg}(a:kk s st)(q:¬Gw s st):XY 5000 s st=some (.inl true):=by
 obtain ⟨r,b,h⟩:=AS a;have:r=false:=by
  cases r with
  |false=>rfl
  |true=>exact absurd (h.1 rfl) q
 unfold XY;rw[ZW a q,aF];dsimp only;rw[b,this];rfl
theorem yi{s:aX}(hs:iC s) :
  WF 5000 s.aw s.aL s.ah s.aT s.ae.oJ s.ae.cQ s.ae.iy s.ae.bJ s.cF s.Mode s.an s.tc s.aK s.bL s.ia s.In s.Out s.cD=some s:=by
 unfold WF;rw[show Wx 5000 _=some s from xf hs];rfl
end Go.Plain
end
