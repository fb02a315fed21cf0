/- TyPA, TyPB, TyPC, TyPD, TyS1, TySA, TyS2, TySJ, TyS5, TyS6, TySE, TyH1 -/
import Derived.Test.YtidhdalhpjapaaaGreatDoorLawA
set_option linter.all false
section
namespace Go.Plain
open Go.Abs
def ow(A:List bp)(i:Int)(c:Nat):Int:=(A.map λa=>dZ a.an i * cmp c a.au).sum
theorem Zq{a:bp}{A:List bp}{i:Int}{c:Nat}:ow (a::A) i c=dZ a.an i * cmp c a.au+ow A i c:=by simp[ow]
theorem Vp{A:List bp}{k:Nat}(h:k<A.length)(i:Int)(c:Nat):ow (A.take (k+1)) i c=ow (A.take k) i c+dZ A[k].an i * cmp c A[k].au:=by rw[OI h];simp only[ow,Wv,oK,List.map_nil,yBM,List.sum_cons,List.sum_nil];omega
def qH(n:Int)(A:List bp):Prop:=∀a∈A,bK a.an n/\aX a.au
theorem Gw{n:Int}{a:bp}(h:bK a.an n/\aX a.au)(i:Int)(c:Nat):0<=dZ a.an i * cmp c a.au/\dZ a.an i * cmp c a.au<=67108864:=
 dL (Bt h.1 i) (Bs.1 h.2 c)
theorem eW{n:Int}{A:List bp}(h:qH n A)(i:Int)(c:Nat):0<=ow A i c/\ow A i c<=67108864 * A.length:=by
 induction A with
 |nil=>simp[ow]
 |cons a A ih=>have e:=ih λb d=>h b (pG _ d);have f:=Gw (h a (pe ..)) i c;rw[Zq,List.length_cons];omega
def FT(F:List aJ)(A:List bp):Prop:=∀i (h:i<F.length) c,ow A i c<=cmp c F[i]
theorem zY{a:aJ}{n:Int}(b:aX a)(p:0<=n/\n<=64):zcO 1000 a n=some (mulR n a):=by
 obtain ⟨m,rfl⟩:∃m:Nat,n=(m:Int):=⟨n.toNat,by omega⟩;unfold zcO;refine ce.eq (oe m (λk x=>x=((k:Int),(k:Int) * a.bP,(k:Int) * a.Mem,(k:Int) * a.bS,(k:Int) * a.b_)) (λk x f hk d g=>?_) (λx f d=>?_) (by simp) (by omega))
 ·subst d;have h:=dL (n:=((k+1:Nat):Int)) (by omega) b.Av;have i:=dL (n:=((k+1:Nat):Int)) (by omega) b.mem;have j:=dL (n:=((k+1:Nat):Int)) (by omega) b.Br;have o:=dL (n:=((k+1:Nat):Int)) (by omega) b.BH;have e:∀x:Int,((k+1:Nat):Int) * x=(k:Int) * x+x:=λx=>by rw[Int.natCast_add,yBR];simp
  rw[e] at h i j o;simp only[cK hk,if_true,YW,Option.bind_some,bV (show k<1000000 by omega)];refine g _ ?_;rw[wr (x:=(k:Int) * a.bP+a.bP) (by omega) (by omega),wr (x:=(k:Int) * a.Mem+a.Mem) (by omega) (by omega),wr (x:=(k:Int) * a.bS+a.bS) (by omega) (by omega),wr (x:=(k:Int) * a.b_+a.b_) (by omega) (by omega),e,e,e,e]
 ·subst d;simp only[cM,a_,bn,bA];rfl
theorem Jw(a b:aJ):dv (NM 1000 a b) (∀c,cmp c a<=cmp c b):=by
 simp only[NM,dv,bA,bJ,bb];constructor
 ·intro h c
  match c with
  |0=>exact h.1.1.1
  |1=>exact h.1.1.2
  |2=>exact h.1.2
  |_+3=>exact h.2
 ·intro h;exact ⟨⟨⟨h 0,h 1⟩,h 2⟩,h 3⟩
theorem Ss{F:List aJ}{A:List bp}(hF:F.length<=300)(hA:A.length<=300)(hs:∀a∈A,a.an.length<=300){n:Int}(h:qH n A):ce (Zo 1000 F A) λr=>r.2=true↔FT F A:=by
 unfold Zo;refine oe F.length (λi x=>(x.1=true↔∀m (h:m<F.length),m<i->∀c,ow A m c<=cmp c F[m])/\x.2.1=(i:Int)/\x.2.2.length=i) (λi x f b u M=>?_) (λx f u=>?_) ⟨⟨λ_ m h s=>by omega,λ_=>rfl⟩,rfl,rfl⟩ (by omega)
 ·obtain ⟨P,Q,v⟩:=x;obtain ⟨e,j,w⟩:=u;dsimp only at e j w;subst j;simp only[cK b,if_true];refine oe A.length (λk y=>y=((k:Int),ow (A.take k) i 0,ow (A.take k) i 1,ow (A.take k) i 2,ow (A.take k) i 3)) (λk y g hk E R=>?_) (λy g E=>?_) (by simp[ow]) (by omega)
  ·subst E;have G:=h _ (bR hk);have t:qH n (A.take (k+1)):=λa S=>h a (WV S);have lk:((A.take (k+1)).length:Int)<=300:=by rw[uC];omega
   have T:=eW t i 0;have U:=eW t i 1;have W:=eW t i 2;have X:=eW t i 3;rw[Vp hk] at T U W X;simp only[cK hk,if_true,cj hk,Option.bind_some,KZ (hs _ (bR hk)) G.1,zY G.2 (Bt G.1 i),YW,bV (show k<1000000 by omega)];refine R _ ?_;rw[Vp hk,Vp hk,Vp hk,Vp hk];have Y:(mulR (dZ A[k].an i) A[k].au).bP=dZ A[k].an i * cmp 0 A[k].au:=rfl;have Z:(mulR (dZ A[k].an i) A[k].au).Mem=dZ A[k].an i * cmp 1 A[k].au:=rfl;have e2:(mulR (dZ A[k].an i) A[k].au).bS=dZ A[k].an i * cmp 2 A[k].au:=rfl;have e3:(mulR (dZ A[k].an i) A[k].au).b_=dZ A[k].an i * cmp 3 A[k].au:=rfl;rw[Y,Z,e2,e3,wr (x:=_+dZ A[k].an i * cmp 0 A[k].au) (by omega) (by omega),wr (x:=_+dZ A[k].an i * cmp 1 A[k].au) (by omega) (by omega),wr (x:=_+dZ A[k].an i * cmp 2 A[k].au) (by omega) (by omega),wr (x:=_+dZ A[k].an i * cmp 3 A[k].au) (by omega) (by omega)]
  ·subst E;have ap:∀z:aJ,bU v [z]=some (v++[z]):=λz=>dx (by simp only[List.length_singleton];omega);simp only[cM,a_,bn,dt,cj b,Option.bind_some,ze1,ap,bV (show i<1000000 by omega),DO];rw[bD];refine ⟨λd=>?_,λd=>?_⟩
   ·refine (Jw _ _).bind λr K=>?_;refine M _ ⟨?_,rfl,by simp only[Gh,List.length_singleton];omega⟩;dsimp only;rw[K];have N:∀c,cmp c ({ bP:=ow A i 0,Mem:=ow A i 1,bS:=ow A i 2,b_:=ow A i 3 }:aJ)=ow A i (min c 3):=λc=>by
     match c with
     |0=>rfl
     |1=>rfl
     |2=>rfl
     |c+3=>rw[Nat.min_eq_right (by omega)];rfl
    have O:∀c,ow A i (min c 3)=ow A i c:=λc=>by
     match c with
     |0=>rfl
     |1=>rfl
     |2=>rfl
     |c+3=>rw[Nat.min_eq_right (by omega)];rfl
    constructor
    ·intro o m L p c;rcases O_ (Vw.1 p) with s | s
     ·exact e.1 d m L s c
     ·subst s;have:=o c
      rwa [N,O] at this
    ·intro o c;rw[N,O];exact o i b (by omega) c
   ·refine M _ ⟨?_,rfl,by simp only[Gh,List.length_singleton];omega⟩;dsimp only;simp only[a_,AP];intro o;exact d (e.2 λm L p=>o m L (by omega))
 ·obtain ⟨P,Q,v⟩:=x;obtain ⟨e,j,w⟩:=u;dsimp only at e j w;subst j;simp only[cM,a_,bn,bA];rw[e];exact ⟨λq i b c=>q i b b c,λq i b _ c=>q i b c⟩
structure Nn (s:aU) (st:bj) (i:Nat) (a:bp):Prop where
 up:∀m (h:m<st.ai.length),m+1=i->st.ai[m].aK<a.aK
 Au:∃j∈st.ae,j.Id=a.aK
 shares:bK a.an s.am.length
 cp:aX a.au
structure Rx (s:aU) (st:bj):Prop where
 each:∀i (h:i<st.ai.length),Nn s st i st.ai[i]
 fit:FT s.am st.ai
theorem Rx.HP{s:aU}{st:bj}(h:Rx s st):qH s.am.length st.ai:=λa o=>by obtain ⟨i,j,rfl⟩:=pD o;exact ⟨(h.each i j).shares,(h.each i j).cp⟩
theorem LO{s:aU}{st:bj}(k:dN s st):dv (zdq 1000 s st) (Rx s st):=by
 have M:=k.aR;have v:=k.aW;have N:=k.spec.nodes;unfold zdq;refine uK st.ai (λi a=>Nn s st i a) (λi f d u w=>?_) (λf u=>?_) (by omega)
 ·have hd:decide ((i:Int) > 0)=decide (0<i):=by simp
  have x:=k.shares _ (bR d);have fin:(∀m (h:m<st.ai.length),m+1=i->st.ai[m].aK<st.ai[i].aK)->ce ((Fv 1000 st.ae st.ai[i].aK).bind λr=>
    if decide (r<0)=true then some false else (zbD 1000 st.ai[i].an (s.am.length:Int)).bind λA=>
    if (!A)=true then some false else (QZ 1000 st.ai[i].au).bind λn=>if (!n)=true then some false else f ((i+1:Nat):Int)) (λb=>b=true↔Rx s st):=λy=>by
   refine (oB (by omega) st.ai[i].aK).bind λr o=>?_;rw[bD];refine ⟨λh=>cy λq=>?_,λh=>?_⟩
   ·have:=o.1.2 (q.each i d).Au;simp only[bb] at h;omega
   ·simp only[bb] at h;refine (Fp _ _ (mA x (by decide))).bind λA p=>?_;rw[bD];refine ⟨λh=>cy λq=>?_,λg=>?_⟩
    ·have:=p.2 (q.each i d).shares;rw[this] at h;simp at h
    ·simp only[ic,oN] at g;refine (kP _).bind λn t=>?_;rw[bD];refine ⟨λh=>cy λq=>?_,λE=>?_⟩
     ·have:=t.2 (q.each i d).cp;rw[this] at h;simp at h
     ·simp only[ic,oN] at E;exact w ⟨y,o.1.1 (by omega),p.1 g,t.1 E⟩
  simp only[dt,cK d,if_true,cj d,Option.bind_some,bV (show i<1000000 by omega),hd];rw[bD];refine ⟨λh=>?_,λh=>?_⟩
  ·simp only[bb] at h;obtain ⟨m,rfl⟩:∃m,i=m+1:=⟨i-1,by omega⟩;rw[wp1 (show m+1<1000000 by omega),cj (show m<st.ai.length by omega),aE,bD];refine ⟨λg=>cy λq=>?_,λg=>fin λK L e=>?_⟩
   ·have:=(q.each (m+1) d).up m (by omega) rfl;simp only[bb] at g;omega
   ·simp only[bb] at g;have:K=m:=by omega
    subst this;omega
  ·simp only[bb] at h;exact fin λm O e=>by omega
 ·simp only[cM,a_,bn];have G:qH s.am.length st.ai:=λa z=>by
   obtain ⟨j,F,rfl⟩:=pD z;exact ⟨(u j F).shares,(u j F).cp⟩
  refine (Ss (by omega) v (λa z=>mA (k.shares a z) (by decide)) G).bind λr w=>?_;rw[bA,w];exact ⟨λh=>⟨λi d=>u i d,h⟩,λh=>h.fit⟩
theorem Mw{l:List Int}(h:∀i (h:i+1<l.length),l[i]<l[i+1]):l.Pairwise (·<·):=by
 rw[ZA];intro i j f d a;induction j with
 |zero=>omega
 |succ j ih=>
  have e:=h j d;rcases O_ (Vw.1 a) with b | b
  ·have:=ih (by omega) b;omega
  ·subst b;exact e
theorem asc_eq{l m:List Int}(d:l.Pairwise (·<·))(f:m.Pairwise (·<·))(h:∀x,x∈l↔x∈m):l=m:=by
 induction l generalizing m with
 |nil=>
  cases m with
  |nil=>rfl
  |cons y m=>exact absurd ((h y).2 (pe ..)) (by simp)
 |cons x l ih=>
  cases m with
  |nil=>exact absurd ((h x).1 (pe ..)) (by simp)
  |cons y m=>
   rw[yBP] at d f;have e:x=y:=by
    rcases me.1 ((h x).1 (pe ..)) with e | a
    ·exact e
    ·rcases me.1 ((h y).2 (pe ..)) with e | g
     ·exact e.symm
     ·have:=d.1 y g;have:=f.1 x a;omega
   subst e;congr 1;refine ih d.2 f.2 λz=>⟨λb=>?_,λb=>?_⟩
   ·rcases me.1 ((h z).1 (pG _ b)) with e | a
    ·have:=d.1 z b;omega
    ·exact a
   ·rcases me.1 ((h z).2 (pG _ b)) with e | a
    ·have:=f.1 z b;omega
    ·exact a
theorem fP{s:aU}{st:bj}{H:List aF}{A:List bp}{F:List aJ}(h:dm s st H A F)(d:∀r∈F,aX r):A.map (·.aK)=H.map (·.Id)/\FT F A:=by
 induction H generalizing A F with
 |nil=>rw[show A=[] from h];exact ⟨rfl,λi b c=>by simp only[ow,List.map_nil,List.sum_nil];exact (Bs.1 (d _ (bR b)) c).1⟩
 |cons j H ih=>obtain ⟨a,n,rfl,e,f,g⟩:=h;obtain ⟨k,m⟩:=ih g (yS f);refine ⟨by rw[oK,oK,k,e.Au],λi b c=>?_⟩;have:=m i (by rw[VH];exact b) c;rw[sM,yR,gh,DP] at this;rw[Zq];omega
theorem Ig{s:aU}{st:bj}{n:Int}{H:List aF}{A:List bp}{F:List aJ}(d:A.map (·.aK)=H.map (·.Id))(u:∀r∈F,aX r)(o:∀a∈A,∀j∈H,a.aK=j.Id->l_ s st j a)(p:qH n A)(q:FT F A):dm s st H A F:=by
 induction H generalizing A F with
 |nil=>
  cases A with
  |nil=>rfl
  |cons a A=>cases d
 |cons j H ih=>
  cases A with
  |nil=>cases d
  |cons a A=>
   rw[oK,oK] at d;have f:a.aK=j.Id:=by injection d
   have g:A.map (·.aK)=H.map (·.Id):=by injection d
   have v:=p a (pe ..);have t:qH n A:=λb h=>p b (pG _ h);have fa:Al F a:=λi e=>Bs.2 λc=>by have m:=q i e c;have w:=Gw v i c;have x:=eW t i c;have y:=Bs.1 (u _ (bR e)) c;rw[Zq] at m;rw[yR,gh,DP];omega
   refine ⟨a,A,rfl,o a (pe ..) j (pe ..) f,fa,ih g (yS fa) (λb h k hk=>o b (pG _ h) k (pG _ hk)) t λi e c=>?_⟩;have m:=q i (by rwa [VH] at e) c;rw[sM,yR,gh,DP];rw[Zq] at m;omega
theorem Hs{s:aU}{st:bj}(J:cJ s st):((st.ae.filter dE).map (·.Id)).Pairwise (·<·):=by
 have h:(st.ae.map (·.Id)).Pairwise (·<·):=Mw λi a=>by rw[Ll,Ll];exact J.aY i (by simpa using a)
 rw[List.pairwise_map] at h ⊢;exact h.filter _
structure Tn (s:aU) (st:bj) (j:aF):Prop where
 has:(∃a∈st.ai,a.aK=j.Id)↔dE j=true
 KY:∀a∈st.ai,a.aK=j.Id->l_ s st j a
theorem sA{s:aU}{st:bj}(k:aZ s)(J:cJ s st)(A:gz s st):Rx s st/\∀j∈st.ae,Tn s st j:=by
 obtain ⟨h,u⟩:=fP A k.nodes.ok;have r:=Hs J;rw[<-h] at r;have LJ:∀j∈st.ae,∀f∈st.ae,j.Id=f.Id->j=f:=λj d f b e=>by obtain ⟨m,n,rfl⟩:=pD d;obtain ⟨x,o,rfl⟩:=pD b;have:=J.aY.inj n o e;subst this;rfl
 refine ⟨⟨λi t=>?_,u⟩,λj d=>⟨⟨λ⟨a,g,e⟩=>?_,λv=>?_⟩,λa g e=>?_⟩⟩
 ·obtain ⟨j,d,P⟩:=A.mem _ (bR t);refine ⟨λm n e=>?_,⟨j,d,P.Au.symm⟩,P.xK.shares,by rw[P.cp];exact (J.each j d).ok.cp⟩;have:=ZA.1 r m i (by simpa using n) (by simpa using t) (by omega);simpa using this
 ·have:a.aK∈st.ai.map (·.aK):=jJ.2 ⟨a,g,rfl⟩;rw[h] at this;obtain ⟨f,b,w⟩:=jJ.1 this;obtain ⟨p,q⟩:=S_.1 b;have:f=j:=LJ _ p _ d (by rw[w,e]);subst this;exact q
 ·have:j.Id∈(st.ae.filter dE).map (·.Id):=jJ.2 ⟨j,S_.2 ⟨d,v⟩,rfl⟩;rw[<-h] at this;obtain ⟨a,g,e⟩:=jJ.1 this;exact ⟨a,g,e⟩
 ·obtain ⟨f,b,P⟩:=A.mem a g;have:f=j:=LJ _ b _ d (by rw[<-P.Au,e]);subst this;exact P
theorem GP{s:aU}{st:bj}(k:aZ s)(J:cJ s st)(R:Rx s st)(h:∀j∈st.ae,Tn s st j):gz s st:=by
 have m:(st.ai.map (·.aK)).Pairwise (·<·):=Mw λi f=>by rw[Ll,Ll];exact (R.each (i+1) (by simpa using f)).up i (by simp at f;omega) rfl
 refine Ig (n:=s.am.length) (asc_eq m (Hs J) λx=>⟨λg=>?_,λg=>?_⟩) k.nodes.ok (λa d j b e=>(h j (S_.1 b).1).KY a d e) R.HP R.fit
 ·obtain ⟨a,d,rfl⟩:=jJ.1 g;obtain ⟨i,f,rfl⟩:=pD d;obtain ⟨j,b,e⟩:=(R.each i f).Au;exact jJ.2 ⟨j,S_.2 ⟨b,(h j b).has.1 ⟨_,d,e.symm⟩⟩,e⟩
 ·obtain ⟨j,b,rfl⟩:=jJ.1 g;obtain ⟨a,d,e⟩:=(h j (S_.1 b).1).has.2 (S_.1 b).2;exact jJ.2 ⟨a,d,e⟩
end Go.Plain
end
section
namespace Go.Plain
open Go.Abs
theorem jn_ite{X R:Type}{r:X->Option R}{c:Prop}[Decidable c]{a b:X}:jn r (λj=>if c then j a else j b)=r (if c then a else b):=by unfold jn;split <;> rfl
theorem NK{l:List lz}{n:Int}(h:bK l n){i:Int}:dZ l i > 0↔∃x∈l,x.Node=i:=by
 have b:∀x∈l,1<=x.aD:=λx a=>(h.mem x a).2.2.1;clear h;induction l with
 |nil=>simp[dZ]
 |cons y l ih=>
  have d:=ih λx a=>b x (pG _ a);have k:=b y (pe ..);have m:=zJ (l:=l) (λx a=>by have:=b x (pG _ a);omega) i;have e:dZ (y::l) i=(if y.Node=i then y.aD else 0)+dZ l i:=by simp[dZ]
  rw[e];constructor
  ·intro j;by_cases f:y.Node=i
   ·exact ⟨y,pe ..,f⟩
   ·rw[if_neg f] at j;obtain ⟨x,a,e⟩:=d.1 (by omega);exact ⟨x,pG _ a,e⟩
  ·rintro ⟨x,a,g⟩;rcases me.1 a with rfl | a
   ·rw[if_pos g];omega
   ·have:=d.2 ⟨x,a,g⟩;split <;> omega
def fW(st:bj)(node b:Int)(a:bp):Prop:=∃j∈st.ae,j.Id=a.aK/\(∃x∈a.an,x.Node=node)/\b<j.Start+j.aN
theorem FM{s:aU}{st:bj}(w:dN s st)(R:Rx s st)(node d:Int):ce (zb3 1000 st node d) λb=>cJ s st->(b=true↔∃a∈st.ai,fW st node d a):=by
 have P:=w.aR;have N:=w.aW;unfold zb3;refine uK st.ai (λi a=>cJ s st->¬fW st node d a) (λi f t K y=>?_) (λf K=>?_) (by omega)
 ·simp only[dt,cK t,if_true,cj t,Option.bind_some,bV (show i<1000000 by omega)];have u:=bR t;refine (oB (by omega) st.ai[i].aK).bind λr o=>?_;rw[bD];refine ⟨λh=>?_,λh=>?_⟩
  ·simp only[bb] at h;have k:=o.2.1 h;have S:=(R.each i t).shares;obtain ⟨L,e⟩:=ey (l:=st.ae) k.lo (by have:=k.lo;have:=k.hi;omega);have z:=bR L;have fin:ce (if decide (IntKind.i64.wrap (st.ae[r.toNat].Start+st.ae[r.toNat].aN) > d)=true then some true else f ((i+1:Nat):Int)) (λb=>(∃x∈st.ai[i].an,x.Node=node)->cJ s st->(b=true↔∃a∈st.ai,fW st node d a)):=by
    rw[bD];refine ⟨λg=>?_,λg=>?_⟩
    ·rw[bA];intro E J;have p:=(J.each _ z).ok;have:=p.start;have:=p.wall;rw[wr (by omega) (by omega)] at g;simp only[bb] at g;exact ⟨λ_=>⟨_,u,_,z,k.is,E,g⟩,λ_=>rfl⟩
    ·refine (y λJ F=>?_).mono λb G _=>G;obtain ⟨j,n,v,-,M⟩:=F;have:j=st.ae[r.toNat]:=by
      obtain ⟨m,O,rfl⟩:=pD n;have:=J.aY.inj O L (by rw[v,k.is]);subst this;rfl
     subst this;have p:=(J.each _ z).ok;have:=p.start;have:=p.wall;rw[wr (by omega) (by omega)] at g;simp only[bb] at g;omega
   rw[KZ (mA (w.shares _ u) (by decide)) S,aE,e,bD];simp only[Option.bind_some];refine ⟨λg=>?_,λg=>?_⟩
   ·simp only[bb] at g;exact fin.mono λb G=>G ((NK S).1 g)
   ·simp only[bb] at g;rw[if_neg (by simp)];exact y λJ ⟨j,n,v,q,M⟩=>g ((NK S).2 q)
  ·simp only[bb] at h;rw[if_neg (by simp)];exact y λJ ⟨j,n,v,q,M⟩=>by have:=o.1.2 ⟨j,n,v⟩;omega
 ·simp only[cM,a_,bn,bA,AP];rintro J ⟨a,u,F⟩;exact AQ (A:=λa=>cJ s st->¬fW st node d a) K a u J F
theorem PO{s:aU}{st:bj}(A:dN s st)(R:Rx s st):ce (zdK 1000 s st) λb=>cJ s st->(b=true↔xY s st):=by
 have E:=A.cI;unfold zdK;refine uK st.aC (λi b=>(b.Id<st.aO/\st.bF<b.To)/\(cJ s st->¬∃a∈st.ai,fW st b.Node b.bE a)) (λi f k n o=>?_) (λf n=>?_) (by omega)
 ·simp only[dt,cK k,if_true,cj k,Option.bind_some,bV (show i<1000000 by omega)];have d:=bR k;rw[bD];refine ⟨λh=>?_,λh=>?_⟩
  ·rw[bA];intro J;simp only[dW,bb] at h;simp only[a_,AP];exact λq=>by have:=q.live _ d;omega
  ·simp only[dW,bb] at h;refine (FM A R _ _).bind λr g=>?_;rw[bD];refine ⟨λp=>?_,λp=>o ⟨by omega,λJ=>λq=>p ((g J).2 q)⟩⟩;rw[bA];intro J;simp only[a_,AP];intro q;obtain ⟨a,t,j,u,e,⟨x,v,w⟩,y⟩:=(g J).1 p;exact q.Aj a t j u e x v _ d w.symm y
 ·simp only[cM,a_,bn];refine (RQ _ _ (by omega)).bind λr o=>?_;rw[bA];intro J;rw[o];refine ⟨λh=>⟨h,λb d=>?_,λa t j u e x v b d w y=>?_⟩,λq=>q.cI⟩
  ·obtain ⟨m,z,rfl⟩:=pD d;exact (n m z).1
  ·obtain ⟨m,z,rfl⟩:=pD d;exact (n m z).2 J ⟨a,t,j,u,e,⟨x,v,w.symm⟩,y⟩
structure AtA (l:List bp) (id:Int) (r:Int):Prop where
 lo:0<=r
 hi:r.toNat<l.length
 is:l[r.toNat].aK=id
theorem FO{l:List bp}(g:l.length<=300)(id:Int):ce (zdg 1000 l id) λr=>(0<=r↔∃a∈l,a.aK=id)/\(0<=r->AtA l id r):=by
 unfold zdg;refine uK l (λ_ j=>j.aK≠id) (λi f h _ b=>?_) (λf h=>?_) (by omega)
 ·simp only[cK h,if_true,cj h,Option.bind_some,bV (show i<1000000 by omega),bD,bA,lm];exact ⟨λe=>⟨⟨λ_=>⟨_,bR h,e⟩,λ_=>by omega⟩,λ_=>⟨by omega,by simpa using h,by simpa using e⟩⟩,λe=>b e⟩
 ·simp only[cM,a_,bn,bA];refine ⟨⟨λh=>by omega,λ⟨j,d,e⟩=>absurd e (AQ (A:=λj=>j.aK≠id) h j d)⟩,λh=>by omega⟩
theorem Rx.LJ{s:aU}{st:bj}(R:Rx s st){i j:Nat}(o:i<st.ai.length)(x:j<st.ai.length)(e:st.ai[i].aK=st.ai[j].aK):i=j:=by
 have u:(st.ai.map (·.aK)).Pairwise (·<·):=Mw λi o=>by rw[Ll,Ll];exact (R.each (i+1) (by simpa using o)).up i (by simp at o;omega) rfl
 rw[ZA] at u;rcases yBv i j with h | h | h
 ·have:=u i j (by simpa using o) (by simpa using x) h;rw[Ll,Ll] at this;omega
 ·exact h
 ·have:=u j i (by simpa using x) (by simpa using o) h;rw[Ll,Ll] at this;omega
structure LB (s:aU) (st:bj) (j:aF):Prop where
 KD:kr s st j
 waits:EX s st j
 has:Tn s st j
theorem WU{s:aU}(k:aZ s){st:bj}(y:dN s st)(R:Rx s st){j:aF}(Z:j∈st.ae):dv (zeY 1000 s st j) (LB s st j):=by
 have kv:=k.dr;have hl:=y.aR;have M:=y.aW;unfold zeY;refine (nR j (y.after j Z)).bind λr E=>?_;rw[bD];refine ⟨λh=>cy λq=>?_,λh=>?_⟩
 ·have:=E.2 q.KD.ok;rw[this] at h;simp only[dW,bb,zM,a_,false_or] at h;have:=q.KD.next;have:=q.KD.user;have:=q.KD.queue;have:=q.KD.born;have:=q.KD.start;have:=q.KD.fin;omega
 ·simp only[dW,bb,not_or,ic,oN] at h;have v:=E.1 h.1.1.1.1.1.1;have ad:=v.state.st;have af:=v.start;have ak:=v.wall;simp only[jn_ite];generalize he:(if decide (j.State≥5)=true then (3:Int) else if (j.State == 4)=true then 2 else if (j.State == 3)=true then 1 else 0)=e;have ev:e=hY j.State:=by
   rw[<-he];simp only[hY,bb,lm,ge_iff_le];split
   ·split <;> (try split) <;> (try split) <;> omega
   ·split
    ·split <;> (try split) <;> omega
    ·split <;> (try split) <;> (try split) <;> omega
  have eb:=tx j.State;refine (FO M j.Id).bind λT o=>?_;simp only[dt,ZZ,Option.bind_some];rw[ev,wr (x:=s.aB+hY j.State) (by omega) (by omega),bD];refine ⟨λN=>cy λq=>?_,λN=>?_⟩
  ·have:=q.KD.version;simp only[bb] at N;omega
  ·simp only[bb] at N;have I:kr s st j:=⟨v,by omega,by omega,by omega,by omega,by omega,by omega,by omega⟩;have eh:((j.State == 3) || (j.State == 4))=dE j:=rfl;rw[eh,bD];refine ⟨λz=>cy λq=>?_,λz=>?_⟩
   ·have:=q.has.has;rw[<-o.1] at this;cases w:dE j with
    |true=>have t:=this.2 w;simp[w] at z;omega
    |false=>
     have t:¬0<=T:=λt=>by have:=this.1 t;rw[w] at this;cases this
     simp[w] at z;omega
   ·have f:(∃a∈st.ai,a.aK=j.Id)↔dE j=true:=by
     rw[<-o.1];cases w:dE j with
     |true=>simp[w] at z;simp[z]
     |false=>simp[w] at z;simp;omega
    rw[bD];refine ⟨λO=>oP ?_,λO=>?_⟩
    ·simp only[bb] at O;refine ⟨I,λhs=>by omega,f,λa A e=>?_⟩;have:=X_ (f.1 ⟨a,A,e⟩);omega
    ·simp only[bb] at O;have A:=v.cw;refine uK j.ay (λ_ d=>∃i∈st.ae,i.Id=d.aK) (λm g F U hr=>?_) (λg U=>?_) (by omega)
     ·simp only[cK F,if_true,cj F,Option.bind_some,bV (show m<1000000 by omega)];refine (oB (by omega) j.ay[m].aK).bind λr G=>?_;rw[bD];refine ⟨λu=>cy λq=>?_,λu=>hr (G.1.1 ?_)⟩
      ·have:=G.1.2 ((q.waits (by omega)).after _ (bR F));simp only[bb] at u;omega
      ·simp only[bb] at u;omega
     ·simp only[cM,a_,bn];obtain ⟨b,X,e2⟩:=uz y.spec k (q:=j.Queue) (m:=j.aD) v.cp v.ny;rw[e2,aE,bD];refine ⟨λu=>cy λq=>?_,λu=>?_⟩
      ·have:=(q.waits (by omega)).fits;rw[X] at this;simp only[aw] at this;subst this;simp at u
      ·simp only[ic,oN] at u;subst u;have W:EX s st j:=λ_=>⟨X,AQ U⟩;rw[bD];refine ⟨λK=>oP ⟨I,W,f,λa A e=>?_⟩,λK=>?_⟩
       ·have:=f.1 ⟨a,A,e⟩;rw[this] at K;simp at K
       ·simp only[ic,oN] at K;have r0:=o.1.2 (f.2 K);have n:=o.2 r0;obtain ⟨Y,e3⟩:=ey (l:=st.ai) n.lo (by have:=n.lo;have:=n.hi;omega);have p:=bR Y;rw[wr (x:=j.Start+j.aN) (by omega) (by omega),e3,bD];simp only[Option.bind_some];refine ⟨λL=>?_,λL=>cy λq=>?_⟩
        ·simp only[bb] at L;rw[bD];refine ⟨λP=>?_,λP=>cy λq=>P (dD.2 (q.has.KY _ p n.is).cp)⟩;have eN:=dD.1 P;refine (Uh y.spec k j _ (mA (y.shares _ p) (by decide))).bind λr Q=>?_;rw[bA,Q];refine ⟨λS=>⟨I,W,f,λa A e=>?_⟩,λq=>(q.has.KY _ p n.is).xK⟩;have:a=st.ai[T.toNat]:=by
          obtain ⟨m,F,rfl⟩:=pD A;have:=R.LJ F Y (by rw[e,n.is]);subst this;rfl
         subst this;exact ⟨e,eN,S,L⟩
        ·have:=(q.has.KY _ p n.is).now;simp only[bb] at L;omega
theorem Fo{s:aU}{st:bj}(d:dN s st):dv (zcN 1000 s st) (aI s st):=by
 have hl:=d.aR;have hq:=d.stamps;have T:=d.use;unfold zcN;simp only[dt];refine (EE s d.spec).bind λr n=>?_;rw[bD];refine ⟨λh=>?_,λh=>?_⟩
 ·rw[if_pos trivial];refine cy λq=>?_;have:=n.2 q.spec;rw[this] at h;have W:=q.spec.ids;have:=q.ee.now;have:=q.ee.next;have:=q.ee.book;rw[wr (x:=s.eJ+1) (by omega) (by omega)] at h;simp only[dW,bb,zM,a_,false_or] at h;omega
 ·simp only[dW,bb,not_or,ic,oN] at h;have k:=n.1 h.1.1.1.1.1;have W:=k.ids;rw[wr (x:=s.eJ+1) (by omega) (by omega)] at h;refine (Hz st.aO).bind λr2 o=>?_;rw[bD];refine ⟨λp=>cy λq=>?_,λp=>?_⟩
  ·have:=o.2 (by have:=q.ee.book;omega);rw[this] at p;simp at p
  ·simp only[ic,oN] at p;have u2:=o.1 p;have X:M_ s st:=⟨by omega,by omega,by omega⟩;rw[bD];refine ⟨λN=>?_,λN=>?_⟩
   ·rw[if_pos trivial];refine cy λq=>?_;have:=q.aR.len;simp only[bb] at N;omega
   ·simp only[bb] at N;refine (LO d).bind λr4 t=>?_;rw[bD];refine ⟨λu=>?_,λu=>?_⟩
    ·rw[if_pos trivial];refine cy λq=>?_;have:=t.2 (sA k q.aR q.aW).1;rw[this] at u;simp at u
    ·simp only[ic,oN] at u;have R:=t.1 u;refine (PO d R).bind λr5 v=>?_;rw[bD];refine ⟨λw=>?_,λw=>?_⟩
     ·rw[if_pos trivial];refine cy λq=>?_;have:=(v q.aR).2 q.cE;rw[this] at w;simp at w
     ·simp only[ic,oN] at w;refine (VT st.dl s.aG (by omega)).bind λr6 y=>?_;rw[bD];refine ⟨λz=>?_,λz=>?_⟩
      ·rw[if_pos trivial];refine cy λq=>?_;have:=y.2 ⟨q.use.len,q.use.use⟩;rw[this] at z;have:=q.use.LM;simp only[dW,Ak,ne_eq,zM,a_,false_or] at z;omega
      ·simp only[dW,Ak,ne_eq,not_or,HH,ic,oN] at z;have S:=y.1 z.1;refine (Hz st.aj.am).bind λr7 A=>?_;rw[bD];refine ⟨λE=>cy λq=>?_,λE=>?_⟩
       ·have:=A.2 q.use.nodes;rw[this] at E;simp at E
       ·simp only[ic,oN] at E;have Y:=A.1 E;refine uK st.aj.ah (λ_ x=>0<=x/\x<=281474976710656) (λi f a _ L=>?_) (λf Z=>?_) (by omega)
        ·simp only[cK a,if_true,cj a,Option.bind_some,bV (show i<1000000 by omega)];refine (Hz _).bind λr8 F=>?_;rw[bD];refine ⟨λM=>cy λq=>?_,λM=>L (F.1 (by simpa using M))⟩;have:=F.2 (q.use.stamps _ (bR a));rw[this] at M;simp at M
        ·simp only[cM,a_,bn];have U:UY s st:=⟨S.1,S.2,by omega,Y,AQ Z⟩;refine uK st.ae (λi j=>LB s st j/\HR st.ae i<j.Id) (λi f a _ L=>?_) (λf O=>?_) (by omega)
         ·have hd:decide ((i:Int) > 0)=decide (0<i):=by simp
          have b:=bR a;simp only[cK a,if_true,cj a,Option.bind_some,bV (show i<1000000 by omega),hd];refine (WU k d R b).bind λr9 G=>?_;rw[bD];refine ⟨λK=>cy λq=>?_,λK=>?_⟩
          ·have:=G.2 ⟨q.aR.each _ b,q.waits _ b,(sA k q.aR q.aW).2 _ b⟩;rw[this] at K;simp at K
          ·simp only[ic,oN] at K;have P:=G.1 K;rw[bD];refine ⟨λe=>?_,λe=>?_⟩
           ·simp only[bb] at e;obtain ⟨m,rfl⟩:∃m,i=m+1:=⟨i-1,by omega⟩;rw[wp1 (show m+1<1000000 by omega),cj (show m<st.ae.length by omega),aE,bD];refine ⟨λg=>cy λq=>?_,λg=>L ⟨P,?_⟩⟩
            ·have:=q.aR.aY m a;simp only[bb] at g;omega
            ·rw[uJ (by omega)];simp only[bb] at g;omega
           ·simp only[bb] at e;have:i=0:=by omega
            subst this;refine L ⟨P,?_⟩;have:=P.KD.ok.id;simp only[HR];omega
         ·simp only[cM,a_,bn];have Q:cJ s st:=NE (by omega) λi a=>⟨(O i a).1.KD,(O i a).2⟩;have all:∀j∈st.ae,LB s st j:=λj b=>by
           obtain ⟨m,hm,rfl⟩:=pD b;exact (O m hm).1
          exact oP ⟨k,X,Q,λj b=>(all j b).waits,GP k Q R λj b=>(all j b).has,(v Q).1 w,U⟩
end Go.Plain
end
section
namespace Go.Plain
open Go.Abs
theorem lX{l:List Int}(h:l.length<=1000000):zbr 1000 l=some l:=by unfold zbr;exact jk h
theorem BB{s:aU}(hs:d_ s):zc0 1000 s=some s:=by
 have g:=hs.nodes;have h:=hs.parts;have j:=hs.fq;unfold zc0;rw[zP (by omega),aE,show zcs 1000 s.aQ=some s.aQ from jk (by omega),aE];refine ce.eq (oe s.aQ.length (λi x=>x=((i:Int),s.aQ)) (λi x f a b d=>?_) (λx f b=>?_) rfl (by omega))
 ·subst b;have e:=hs.part _ (bR a);simp only[cK a,if_true,cj a,Option.bind_some,bV (show i<1000000 by omega),lX (show s.aQ[i].length<=1000000 by omega),Int.toNat_natCast,yBA];exact d _ rfl
 ·subst b;simp only[cM,a_,bn];rw[show zbe 1000 s.ah=some s.ah from jk (by omega),aE];refine oe s.ah.length (λi x=>x=((i:Int),s.ah)) (λi x f a b d=>?_) (λx f b=>?_) rfl (by omega)
  ·subst b;have e:=hs.queue _ (bR a);simp only[cK a,if_true,cj a,Option.bind_some,bV (show i<1000000 by omega),lX (show s.ah[i].aG.length<=1000000 by omega),Int.toNat_natCast,yBA];exact d _ (Prod.ext rfl (yBA a))
  ·subst b;simp only[cM,a_,bn,bA]
theorem Qg{n:Int}(h:1<=n/\n<=8):oE 1000 n=some (List.replicate n.toNat 0):=by simp only[oE,zfe];rw[if_neg (by simp;omega),if_neg (by simp;omega)];simp only[Option.bind_some,PJ];rw[if_pos (by omega)];rfl
theorem PZ{n:Int}(h:1<=n/\n<=256):zef 1000 n=some (.inr n):=by simp only[zef];rw[if_neg (by simp;omega)]
theorem new_ok{s:aU}(hs:d_ s)(k:aZ s):eT 1000 s=some (.inr (List.replicate s.ah.length 0,[],s.am,s.aQ,s.ah,s.aG,s.ar.pF,s.ar.dh,s.ar.jT,s.ar.bX,s.bZ,s.Mode,s.ae,s.eJ,s.aB,s.bC,s.dg,s.In,s.Out,s.bW,0,1,1,List.replicate s.aG.toNat 0,0,s.ae,s.am)):=by have a:=hs.fq;unfold eT;rw[zf hs k,aE,if_neg (by simp),PZ k.aR,aE];dsimp only;rw[BN hs k,aE];dsimp only;rw[BB hs,aE,Qg k.v_,aE];unfold PJ;rw[if_pos (by omega),aE];rw[xAb]
theorem xV{j:aF}(h:j.ay.length<=1000000):iT 1000 j=some j:=by unfold iT;rw[show Xq 1000 j.ay=some j.ay from jk h];rfl
theorem Ds{l:List aF}(g:l.length<=300)(d:∀j∈l,j.ay.length<=10):zcL 1000 l=some l:=by
 unfold zcL;rw[show zbI 1000 l=some l from jk (by omega),aE];refine ce.eq (oe l.length (λi x=>x=((i:Int),l)) (λi x f a b e=>?_) (λx f b=>?_) rfl (by omega))
 ·subst b;have h:=d _ (bR a);simp only[cK a,if_true,cj a,Option.bind_some,bV (show i<1000000 by omega),xV (show l[i].ay.length<=1000000 by omega),Int.toNat_natCast,yBA];exact e _ rfl
 ·subst b;simp only[cM,a_,bn,bA]
def mapA(A:List bp):List (Int×bp):=A.map λa=>(a.aK,a)
def nN(A:List bp):Prop:=(A.map (·.aK)).Pairwise (·<·)
theorem Ci{A:List bp}(h:nN A):∀i (b:i<A.length),bT (mapA A) A[i].aK=some A[i]:=by
 induction A with
 |nil=>intro i b;simp at b
 |cons a A ih=>
  unfold nN at h;rw[oK,yBP] at h;intro i b
  match i,b with
  |0,b=>simp[mapA,bT]
  |i + 1, b=>
   have d:i<A.length:=by simpa using b
   have:=h.1 A[i].aK (jJ.2 ⟨_,bR d,rfl⟩);have e:bT (mapA (a::A)) A[i].aK=bT (mapA A) A[i].aK:=by simp only[mapA,oK,bT];rw[if_neg (by omega)]
   rw[List.getElem_cons_succ,e];exact ih h.2 i d
theorem Fa{A:List bp}{q:Int}(h:∀a∈A,a.aK≠q):bT (mapA A) q=none:=by
 induction A with
 |nil=>rfl
 |cons a A ih=>simp only[mapA,oK,bT];rw[if_neg (h a (pe ..))];exact ih λb d=>h b (pG _ d)
theorem SH{A:List bp}{a:bp}(h:∀b∈A,b.aK≠a.aK):dy (mapA A) a.aK a=mapA (A++[a]):=by
 induction A with
 |nil=>rfl
 |cons b A ih=>have:=ih λc d=>h c (pG _ d);simp only[mapA,List.cons_append,oK,dy] at this ⊢;rw[if_neg (h b (pe ..)),this]
theorem Zm{n:Int}(h:0<=n/\n<=1048576):(Lit.int .i64 n).wf=true:=by
 have a:IntKind.i64.min=-9223372036854775808:=by decide
 have b:IntKind.i64.max=9223372036854775807:=by decide
 simp only[Lit.wf,bJ,bb,a,b];omega
theorem HY{A:List bp}(m:A.length<=300)(h:nN A)(b:∀a∈A,0<=a.aK/\a.aK<=1048576):BW (λk=>k) (mapA A)=some (A.map (·.aK)):=by
 have e:(mapA A).map Prod.fst=A.map (·.aK):=by simp[mapA]
 unfold BW;have d:∀p∈mapA A,(Lit.int .i64 p.1).wf=true:=λp f=>by obtain ⟨a,g,rfl⟩:=jJ.1 f;exact Zm (b a g)
 have i:(A.map (·.aK)).Nodup:=h.imp λh=>by omega
 have j:(mapA A).length<=1000000:=by simp[mapA];omega
 rw[e,if_pos ⟨j,i,d⟩,List.mergeSort_of_pairwise (h.imp λh=>by simp;omega)];simp
theorem wQ{A:List bp}(j:A.length<=300)(h:nN A)(k:∀a∈A,0<=a.aK/\a.aK<=1048576)(hs:∀a∈A,a.an.length<=300):VE 1000 (mapA A)=some A:=by
 unfold VE;rw[HY j h k,aE];refine ce.eq (oe (A.map (·.aK)).length (λi x=>x=((i:Int),A.take i)) (λi x f d g m=>?_) (λx f g=>?_) (by simp) (by simp;omega))
 ·subst g;have b:i<A.length:=by simpa using d
  have e:=Ci h i b;have n:=hs _ (bR b);simp only[cK d,if_true,cj d,Option.bind_some,bV (show i<1000000 by omega),Ll,e,KK,zG (show A[i].an.length<=1000000 by omega)];rw[dx (by rw[uC];simp;omega),aE];exact m _ (by rw[OI b])
 ·subst g;simp only[cM,a_,bn,bA,A_,DO]
theorem uc{l:List cg}(h:l.length<=1000000):zaU 1000 l=some l:=by unfold zaU;exact jk h
theorem Xw(a:xH):xH.beq a a=true:=by simp[xH.beq]
theorem Pn(a:lz):lz.beq a a=true:=by simp[lz.beq]
theorem Rp(a:cg):cg.beq a a=true:=by simp[cg.beq]
theorem Ip(a:aJ):aJ.beq a a=true:=dD.2 rfl
theorem lpT{α:Type}{b:(Int->Option Bool)->Int->Option Bool}(l:List α)(hs:∀(i:Nat)(f:Int->Option Bool)(h:i<l.length),b f (i:Int)=f ((i+1:Nat):Int))(a:∀f,b f (l.length:Int)=some true){N:Nat}(d:l.length<N):ca b N 0=some true:=
 ce.eq (uK l (λ_ _=>True) (λi f h _ e=>by rw[hs i f h];exact e trivial) (λf _=>by rw[a];exact ⟨_,rfl,rfl⟩) d)
theorem oH(l:List Int)(a:l.length<=300):zbQ 1000 l l=some true:=by
 unfold zbQ;rw[if_neg (by simp)];refine lpT l (λi f h=>?_) (λf=>?_) (by omega)
 ·simp only[cK h,if_true,cj h,Option.bind_some,bV (show i<1000000 by omega),yBT,a_,bn]
 ·simp only[cM,a_,bn]
theorem Tk(j:aF)(a:j.ay.length<=300):zep 1000 j j=some true:=by
 unfold zep;rw[if_neg (by simp)];refine lpT j.ay (λi f h=>?_) (λf=>?_) (by omega)
 ·simp only[cK h,if_true,cj h,Option.bind_some,bV (show i<1000000 by omega),Xw,zM,a_,bn]
 ·simp only[cM,a_,bn,Rj,Ip,Bool.and_self]
theorem FC(l:List aF)(b:l.length<=300)(a:∀j∈l,j.ay.length<=10):zes 1000 l l=some true:=by
 unfold zes;rw[if_neg (by simp)];refine lpT l (λi f h=>?_) (λf=>?_) (by omega)
 ·have:=a _ (bR h);simp only[cK h,if_true,cj h,Option.bind_some,bV (show i<1000000 by omega),Tk l[i] (by omega),zM,a_,bn]
 ·simp only[cM,a_,bn]
theorem Kr(l:List lz)(a:l.length<=300):zeq 1000 l l=some true:=by
 unfold zeq;rw[if_neg (by simp)];refine lpT l (λi f h=>?_) (λf=>?_) (by omega)
 ·simp only[cK h,if_true,cj h,Option.bind_some,bV (show i<1000000 by omega),Pn,zM,a_,bn]
 ·simp only[cM,a_,bn]
theorem AB(l:List bp)(d:l.length<=300)(b:∀a∈l,a.an.length<=300):zev 1000 l l=some true:=by
 unfold zev;rw[if_neg (by simp)];refine lpT l (λi f h=>?_) (λf=>?_) (by omega)
 ·have:=b _ (bR h);simp only[dt,cK h,if_true,cj h,Option.bind_some,bV (show i<1000000 by omega),yBT,Ip,Kr l[i].an this,zM,a_,bn]
 ·simp only[cM,a_,bn]
theorem Cn(l:List cg)(a:l.length<=300):zeu 1000 l l=some true:=by
 unfold zeu;rw[if_neg (by simp)];refine lpT l (λi f h=>?_) (λf=>?_) (by omega)
 ·simp only[cK h,if_true,cj h,Option.bind_some,bV (show i<1000000 by omega),Rp,zM,a_,bn]
 ·simp only[cM,a_,bn]
theorem Ln{s:aU}{st:bj}(a:dN s st):Vx 1000 st st=some true:=by have b:=a.aR;have d:=a.use;have e:=a.stamps;have f:=a.cI;unfold Vx;rw[if_pos (by simp),FC _ (by omega) a.after,aE,if_pos rfl,AB _ a.aW a.sh,aE,if_pos rfl,Cn _ (by omega),aE,if_pos rfl,oH _ (by omega),aE,if_pos rfl,oH _ (by omega),aE];simp
end Go.Plain
end
section
namespace Go.Plain
open Go.Abs
theorem Iv{l:List aF}(h:bm l)(n:Nat):bm (l.take n):=λi a=>by rw[uC] at a;rw[yBw,yBw];exact h i (by omega)
theorem JA{l:List aF}(k:l.length<=300)(hs:bm l){id:Int}(h:∀j∈l,j.Id<id):Vm 1000 l id=some ((l.length:Int),false):=by
 unfold Vm;have e:(ca (λd (b:Int×Int)=>
   if (decide (b.1<b.2))=true then
    (
     (aL l (IntKind.i64.wrap (Int.fdiv (IntKind.u64.wrap (IntKind.i64.wrap (b.1+b.2))) (2 ^ 1)))).bind λm=>
     some (decide (m.Id≥id))).bind λn=>
    if (!n)=true then
     d ((IntKind.i64.wrap ((IntKind.i64.wrap (Int.fdiv (IntKind.u64.wrap (IntKind.i64.wrap (b.1+b.2))) (2 ^ 1)))+1)),b.2)
    else
     d (b.1,(IntKind.i64.wrap (Int.fdiv (IntKind.u64.wrap (IntKind.i64.wrap (b.1+b.2))) (2 ^ 1))))
   else
    some b.1) 1000 (0,(l.length:Int)))=some (l.length:Int):=by
  refine ce.eq (half k hs id (λj=>some (decide (j.Id<id))) (λj r=>rfl) (λi=>some i) (λi o s p=>?_) _ (λf x=>?_))
  ·rw[bA];rcases O_ o with q | q
   ·have:=p i q (cT _);have:=h _ (bR q);omega
   ·rw[q]
  ·split
   ·cases aL l (IntKind.i64.wrap (Int.fdiv (IntKind.u64.wrap (IntKind.i64.wrap (x.1+x.2))) (2 ^ 1))) with
    |none=>rfl
    |some a=>
     simp only[Option.bind_some,ic,Ux,bb];by_cases g:a.Id<id
     ·rw[if_pos g,if_pos (by omega)]
     ·rw[if_neg g,if_neg (by omega)]
   ·rfl
 rw[e,aE,cM,if_neg (by simp)]
theorem ZT{l:List aF}{n:Nat}(b:n<l.length)(g:l.length<=300)(hs:bm l){m:Int}(k:(l.length:Int)<=m)(a:bM l[n]):za6 1000 (l.take n) l[n] m=some (l.take (n+1),0):=by
 obtain ⟨r,e,h⟩:=zd l[n];have f:=h.2 a;subst f;have o:=a.cw;have d:(l.take n).length=n:=by rw[uC];omega
 unfold za6;rw[e,aE,if_neg (by simp),JA (by omega) (Iv hs n) (λj a=>?_),aE]
 ·rw[if_neg (by simp),if_neg (by rw[d];simp;omega),xV (by omega),aE];unfold zaW;have sl:slice? (l.take n) ((l.take n).length:Int) ((l.take n).length:Int)=some []:=by
   unfold slice?;rw[if_pos ⟨by omega,by omega,by omega⟩];simp
  rw[sl,aE,if_neg (by simp),if_pos (by simp),dx (by rw[d];simp;omega),aE,aE,OI b]
 ·obtain ⟨i,p,rfl⟩:=pD a;rw[yBw];exact hs.lt (by omega) b
def bY(F:List aJ)(l:List bp):List aJ:=l.foldl mP F
structure TInv (s:aU) (st:bj) (i:Nat) (x:Int×(List aJ)×List (Int×bp)):Prop where
 ix:x.1=(i:Int)
 h:∃H,dm s st H (st.ai.drop i) x.2.1
 len:x.2.1.length=s.am.length
 vec:∀r∈x.2.1,aX r
 m:x.2.2=mapA (st.ai.take i)
 fr:x.2.1=bY s.am (st.ai.take i)
theorem nC{s:aU}{st:bj}(q:aI s st):nN st.ai:=by have h:=(fP q.aW q.spec.nodes.ok).1;unfold nN;rw[h];exact Hs q.aR
theorem uL{s:aU}{st:bj}(q:aI s st):∀a∈st.ai,0<=a.aK/\a.aK<=1048576:=λa b=>by obtain ⟨j,d,P⟩:=q.aW.mem a b;have:=(q.aR.each j d).ok.id;have:=P.Au;omega
theorem of_ok{s:aU}{st:bj}(g:dN s st)(q:aI s st):zdB 1000 s st=some (.inr (st.aj.ah,st.ae,(st.ai.map λa=>(a.aK,a)),s.am,s.aQ,s.ah,s.aG,s.ar.pF,s.ar.dh,s.ar.jT,s.ar.bX,s.bZ,s.Mode,s.ae,s.eJ,s.aB,s.bC,s.dg,s.In,s.Out,s.bW,st.bF,st.Next,st.aO,st.aC,st.dl,st.aj.am,s.ae,bY s.am st.ai)):=by
 have U:=g.aR;have W:=g.aW;have hn:=g.spec.nodes;have R:=g.cI;have hu:=g.use;have hs:=g.stamps;obtain ⟨r,e,h⟩:=Dg g;have n:=h.2 q;subst n;have X:=q.aR.len;have Y:=nC q;unfold zdB;rw[e,aE,if_neg (by simp),new_ok g.spec q.spec,aE];dsimp only;refine ce.eq ?_;refine oe st.ae.length (λi x=>x=((i:Int),st.ae.take i)) (λi x f d o n=>?_) (λx f o=>?_) rfl (by omega)
 ·subst o;simp only[cK d,if_true,cj d,Option.bind_some,bV (show i<1000000 by omega),ZT d U q.aR.aY X (q.aR.each _ (bR d)).ok,yBT,a_,bn];exact n _ rfl
 ·subst o;simp only[cM,a_,bn];refine oe st.ai.length (TInv s st) (λi x f d o n=>?_) (λx f o=>?_) ⟨rfl,⟨_,by rw[yBU];exact q.aW⟩,rfl,q.spec.nodes.ok,rfl,rfl⟩ (by omega)
  ·obtain ⟨Z,F,M⟩:=x;obtain ⟨u,A,v,E,t,w⟩:=o;dsimp only at u A v E t w;subst u;have S:=bR d;have K:=g.sh _ S;obtain ⟨H,L⟩:=A;rw[yB3 d] at L;obtain ⟨j,hj,P⟩:=q.aW.mem _ S;have N:=(q.aR.each j hj).ok;have p:Al F st.ai[i]/\∃O,dm s st O (st.ai.drop (i+1)) (mP F st.ai[i]):=by
    cases H with
    |nil=>cases (show st.ai[i]::st.ai.drop (i+1)=[] from L)
    |cons j' O=>obtain ⟨a',A',e',-,hf,n⟩:=L;cases e';exact ⟨hf,O,n⟩
   have k:∀b∈st.ai.take i,b.aK≠st.ai[i].aK:=λb R=>by obtain ⟨m,Q,rfl⟩:=pD R;rw[uC] at Q;rw[yBw];have:=ZA.1 Y m i (by simp;omega) (by simpa using d) (by omega);rw[Ll,Ll] at this;omega
   have T:Ms M F st.ai[i]:=⟨by have:=N.id;have:=P.Au;omega,Ny (by have:=N.AT;have:=P.xK.tot;omega),by rw[v];exact P.xK.shares,by rw[P.cp];exact N.cp,by rw[t];exact Fa k,p.1⟩;simp only[cK d,if_true,cj d,Option.bind_some,bV (show i<1000000 by omega)];refine (No (M:=M) (a:=st.ai[i]) (F:=F) (by omega) K E).bind λr y=>?_;have z:=y.1.2 T;obtain ⟨eM,G⟩:=y.2 z;rw[z];simp only[yBT,a_,bn];refine n _ ⟨rfl,?_,?_,?_,?_,?_⟩
   ·dsimp only;rw[G.eq];exact p.2
   ·dsimp only;rw[G.eq,VH,v]
   ·dsimp only;rw[G.eq];exact yS p.1
   ·dsimp only;rw[eM,t,SH k,OI d]
   ·dsimp only;rw[G.eq,w,OI d,bY,bY,List.foldl_append];rfl
  ·obtain ⟨Z,F,M⟩:=x;obtain ⟨u,A,v,E,t,w⟩:=o;dsimp only at u A v E t w;subst u;simp only[cM,a_,bn];rw[show za0 1000 st.aC=some st.aC from jk (by omega),aE,show zbk 1000 st.dl=some st.dl from jk (by omega),aE,show zbk 1000 st.aj.ah=some st.aj.ah from jk (by omega),aE,bA];rw[t,w,DO,DO];rfl
theorem of_no{s:aU}{st:bj}(a:dN s st)(q:¬aI s st):zdB 1000 s st=some (.inl 2):=by
 obtain ⟨r,e,h⟩:=Dg a;have:r=false:=by
  cases r with
  |false=>rfl
  |true=>exact absurd (h.1 rfl) q
 unfold zdB;rw[e,this];rfl
theorem shown{s:aU}{st:bj}(b:dN s st)(q:aI s st) :
  KE 1000 st.aj.ah st.ae (st.ai.map λa=>(a.aK,a)) st.bF st.Next st.aO st.aC st.dl st.aj.am=some st:=by
 have d:=b.aR;have e:=b.cI;have f:=b.use;have hs:=b.stamps;unfold KE;rw[Ds (by omega) b.after,aE,show VE 1000 (st.ai.map λa=>(a.aK,a))=some st.ai from wQ b.aW (nC q) (uL q) b.sh,aE,uc (by omega),aE,lX (by omega),aE,show zbp 1000 st.aj.ah=some st.aj.ah from jk (by omega),aE]
theorem Pu{s:aU}{st:bj}(b:dN s st)(q:aI s st):zbx 1000 s st=some (.inr (st.aj.ah,st.ae,(st.ai.map λa=>(a.aK,a)),true,s.am,s.aQ,s.ah,s.aG,s.ar.pF,s.ar.dh,s.ar.jT,s.ar.bX,s.bZ,s.Mode,s.ae,s.eJ,s.aB,s.bC,s.dg,s.In,s.Out,s.bW,st.bF,st.Next,st.aO,st.aC,st.dl,st.aj.am,s.ae,bY s.am st.ai)):=by obtain ⟨r,d,h⟩:=Fo b;have e:=h.2 q;subst e;unfold zbx;rw[of_ok b q,aE];dsimp only;rw[d,aE,if_neg (by simp),shown b q,aE,Ln b,aE]
theorem QK{s:aU}{st:bj}(a:dN s st)(q:¬aI s st):zbx 1000 s st=some (.inl true):=by
 obtain ⟨r,b,h⟩:=Fo a;have:r=false:=by
  cases r with
  |false=>rfl
  |true=>exact absurd (h.1 rfl) q
 unfold zbx;rw[of_no a q,aE];dsimp only;rw[b,this];rfl
theorem OR{s:aU}(hs:d_ s) :
  KA 1000 s.am s.aQ s.ah s.aG s.ar.pF s.ar.dh s.ar.jT s.ar.bX s.bZ s.Mode s.ae s.eJ s.aB s.bC s.dg s.In s.Out s.bW=some s:=by
 unfold KA;rw[show zc0 1000 _=some s from BB hs];rfl
end Go.Plain
end
section
namespace Go.Plain
open Go.Abs
theorem zB{l:List Int}{n:Int}(h:nq l n):(l.length:Int)<=n∨l=[]:=by
 have b:∀i,i<l.length->(i:Int)<=l[i]!:=by
  intro i;induction i with
  |zero=>intro a;have:=(h 0 a).1;simp only[KP] at this;simp only[a,getElem!_pos];omega
  |succ i ih=>intro a;have d:=ih (by omega);have e:=(h (i+1) a).1;rw[tR (by omega)] at e;simp only[a,show i<l.length by omega,getElem!_pos] at d ⊢;omega
 cases f:l.length with
 |zero=>exact .inr (VD f)
 |succ m=>left;have d:=b m (by omega);have e:=(h m (by omega)).2;simp only[show m<l.length by omega,getElem!_pos] at d;omega
theorem Ku{s:aU}(k:aZ s):d_ s:={
 nodes:=by have:=k.nodes.hi;omega
 parts:=by have:=k.parts.hi;omega
 fq:=by have:=k.fq.hi;omega
 part:=λp b=>by
  have a:=zB (k.parts.ok p b).2;have:=k.nodes.hi;rcases a with a | a
  ·omega
  ·rw[a];simp
 queue:=λq d=>by
  have a:=zB (k.fq.ok q d).v_;have:=k.v_;rcases a with a | a
  ·omega
  ·rw[a];simp }
theorem KV{l:List lz}{n:Int}(h:bK l n)(b:0<=n):(l.length:Int)<=n:=by
 rcases zB h.node with a | a
 ·simpa using a
 ·have:l=[]:=by simpa using a
  rw[this];simpa using b
theorem kF{s:aU}{st:bj}(q:aI s st):dN s st:={
 spec:=Ku q.spec
 aR:=by have:=q.aR.len;have:=q.spec.aR;omega
 after:=λj b=>by have:=(q.aR.each j b).ok.cw;omega
 aW:=by have h:=(fP q.aW q.spec.nodes.ok).1;have d:=Ts List.length h;simp only[A_] at d;have f:(st.ae.filter dE).length<=st.ae.length:=List.length_filter_le _ _;have:=q.aR.len;have:=q.spec.aR;omega
 cI:=by have:=q.cE.cI.len;omega
 use:=by have:=q.use.len;have:=q.spec.v_;omega
 stamps:=by have:=q.use.LM;have:=q.spec.fq.hi;omega
 shares:=λa e=>by obtain ⟨j,b,P⟩:=q.aW.mem a e;have g:=KV P.xK.shares (by omega);have:=q.spec.nodes.hi;omega }
end Go.Plain
end
section
namespace Go.Plain
open Go.Abs
def UO:aF:={ Id:=0,az:=0,Queue:=0,aD:=0,au:={ bP:=0,Mem:=0,bS:=0,b_:=0 },aN:=0,ay:=[],State:=0,Ok:=false,bG:=false,ab:=0,bI:=0,Start:=0,End:=0,Array:=0 }
theorem Jb{l:List aF}(n:l.length<=300)(hs:bm l)(id:Int):ce (Vm 1000 l id) λr=>(r.2=true↔∃j∈l,j.Id=id)/\(r.2=true->At l id r.1):=by
 unfold Vm;rw[lM];refine half n hs id (λj=>some (decide (j.Id<id))) (λj p=>rfl) (λi=>some i) (λi s g o=>?_) _ (λf x=>?_)
 ·rw[bA,bD];refine ⟨λh=>?_,λh=>?_⟩
  ·simp only[bb] at h;have b:i<l.length:=by omega
   rw[cj b,aE,bA];simp only[lm];refine ⟨⟨λe=>⟨_,bR b,e⟩,λ⟨j,d,e⟩=>?_⟩,λe=>⟨by omega,by simpa using b,by simpa using e⟩⟩;obtain ⟨k,hk,rfl⟩:=pD d;rcases yBv k i with q | q | q
   ·have:=g k hk q;omega
   ·subst q;exact e
   ·have:=hs.lt q hk;have:=o i b (by omega);omega
  ·simp only[bb] at h;simp only[bA,a_,AP,false_implies,Qa];rintro ⟨j,d,e⟩;obtain ⟨k,hk,rfl⟩:=pD d;have:=g k hk (by omega);omega
 ·split
  ·cases aL l (IntKind.i64.wrap (Int.fdiv (IntKind.u64.wrap (IntKind.i64.wrap (x.1+x.2))) (2 ^ 1))) with
   |none=>rfl
   |some a=>
    simp only[Option.bind_some,ic,Ux,bb];by_cases m:a.Id<id
    ·rw[if_pos m,if_pos (by omega)]
    ·rw[if_neg m,if_neg (by omega)]
  ·rfl
section
variable{l:List aF}
theorem zL(l:List aF)(id:Int):(∃k,∃h:k<l.length,l[k].Id=id)∨∀j∈l,j.Id≠id:=by
 by_cases h:∃j∈l,j.Id=id
 ·obtain ⟨j,a,e⟩:=h;obtain ⟨k,hk,rfl⟩:=pD a;exact .inl ⟨k,hk,e⟩
 ·exact .inr λj a e=>h ⟨j,a,e⟩
theorem Fm(d:l.length<=300)(hs:bm l){k:Nat}(hk:k<l.length):Vm 1000 l l[k].Id=some ((k:Int),true):=by obtain ⟨⟨r,b⟩,e,f,g⟩:=Jb d hs l[k].Id;have h:b=true:=f.2 ⟨_,bR hk,rfl⟩;subst h;have a:At l l[k].Id r:=g rfl;have:=hs.inj a.hi hk a.is;have:=a.lo;rw[e,show r=(k:Int) by omega]
theorem Qj(a:l.length<=300)(hs:bm l){id:Int}(h:∀j∈l,j.Id≠id):∃r,Vm 1000 l id=some (r,false):=by
 obtain ⟨⟨r,b⟩,e,d,i⟩:=Jb a hs id;have f:b=false:=by
  cases b with
  |false=>rfl
  |true=>obtain ⟨j,g,e⟩:=d.1 rfl;exact absurd e (h j g)
 exact ⟨r,by rw[e,f]⟩
theorem zfa{j:aF}(h:bM j):Qy 1000 j=some true:=by obtain ⟨r,e,q⟩:=zd j;rw[e,q.2 h]
theorem pU(hs:bm l){k:Nat}(hk:k<l.length){j:aF}(d:j.Id=l[k].Id):bm (l.set k j):=by
 have a:∀i (h:i<l.length),((l.set k j)[i]'(by simpa using h)).Id=l[i].Id:=λi h=>by
  rw[List.getElem_set];split
  ·rename_i e;subst e;exact d
  ·rfl
 intro i f;have b:i+1<l.length:=by simpa using f
 rw[a i (by omega),a (i+1) b];exact hs i b
end
def Cw(x:Int):Int:=if x≥281474976710656 then 0 else x+1
theorem Im{x:Int}(h:0<=x):jS 1000 x=some (Cw x):=by
 unfold jS Cw;simp only[bb];split
 ·rfl
 ·rw[wr (by omega) (by omega)]
def DV(Q:List Int)(q:Int):List Int:=if 0<=q/\q<Q.length then Q.set q.toNat (Cw (Q[q.toNat]?.getD 0)) else Q
theorem lZ(Q:List Int)(q:Int):(DV Q q).length=Q.length:=by unfold DV;split <;> simp
def bL(Q:List Int):Prop:=∀x∈Q,0<=x/\x<=281474976710656
theorem NL{x:Int}(h:0<=x/\x<=281474976710656):0<=Cw x/\Cw x<=281474976710656:=by unfold Cw;split <;> omega
theorem fO{Q:List Int}(h:bL Q)(q:Int):bL (DV Q q):=by
 unfold DV;split
 ·rename_i d;have a:q.toNat<Q.length:=by omega
  intro x b;rcases Vr b with e | e
  ·exact h x e
  ·subst e;rw[dB a];exact NL (h _ (bR a))
 ·exact h
theorem BZ{Q:List Int}(h:bL Q)(q:Int):zbd 1000 Q q=some (DV Q q):=by
 unfold zbd DV;by_cases a:0<=q/\q<Q.length
 ·rw[if_pos (by simp;omega),if_pos a];obtain ⟨b,e⟩:=ey (l:=Q) a.1 a.2;rw[e,aE,Im (h _ (bR b)).1,aE,aE,dB b];rfl
 ·rw[if_neg (by simp;omega),if_neg a]
def Ia(Q:List Int)(a b:Int):List Int:=if b=a then DV Q a else DV (DV Q a) b
theorem Ax(Q:List Int)(a b:Int):(Ia Q a b).length=Q.length:=by unfold Ia;split <;> simp[lZ]
theorem Dj{Q:List Int}(h:bL Q)(a b:Int):bL (Ia Q a b):=by
 unfold Ia;split
 ·exact fO h a
 ·exact fO (fO h a) b
section
variable{l:List aF}
def bo(x:Int):Prop:=x=1∨x=2
instance (x:Int):Decidable (bo x):=by unfold bo;infer_instance
theorem fF(x:Int):PY 1000 x=some (decide (bo x)):=by unfold PY;congr 1;rw[yB8];rw[bb];simp only[dW,lm,bo]
end
structure nr (st:bj):Prop where
 aR:st.ae.length<=300
 after:∀j∈st.ae,j.ay.length<=10
 aW:st.ai.length<=300
 Rq:nN st.ai
 ids:∀a∈st.ai,0<=a.aK/\a.aK<=1048576
 sh:∀a∈st.ai,a.an.length<=300
 cI:st.aC.length<=20
 use:st.dl.length<=20
 stamps:st.aj.ah.length<=20
theorem JR{s:aU}{st:bj}(a:dN s st)(q:aI s st):nr st:=
 ⟨a.aR,a.after,a.aW,nC q,uL q,a.sh,a.cI,a.use,a.stamps⟩
theorem oY{st:bj}(h:nr st) :
  KE 1000 st.aj.ah st.ae (st.ai.map λa=>(a.aK,a)) st.bF st.Next st.aO st.aC st.dl st.aj.am=some st:=by
 have b:=h.aR;have d:=h.cI;have e:=h.use;have hs:=h.stamps;unfold KE;rw[Ds (by omega) h.after,aE,show VE 1000 (st.ai.map λa=>(a.aK,a))=some st.ai from wQ h.aW h.Rq h.ids h.sh,aE,uc (by omega),aE,lX (by omega),aE,show zbp 1000 st.aj.ah=some st.aj.ah from jk (by omega),aE]
theorem LL{st:bj}(h:nr st):Vx 1000 st st=some true:=by have a:=h.aR;have b:=h.use;have d:=h.stamps;have e:=h.cI;unfold Vx;rw[if_pos (by simp),FC _ (by omega) h.after,aE,if_pos rfl,AB _ h.aW h.sh,aE,if_pos rfl,Cn _ (by omega),aE,if_pos rfl,oH _ (by omega),aE,if_pos rfl,oH _ (by omega),aE];simp
theorem Lv{l:List aF}{j:aF}(hs:bm l)(a:∀x∈l,x.Id<j.Id):bm (l++[j]):=λi b=>by
 rw[Gh] at b;simp only[List.length_cons,List.length_nil,N_] at b;rcases uS (i+1) l.length with h | h
 ·rw[yBL (by omega),yBL h];exact hs i h
 ·have e:i+1=l.length:=by omega
  rw[yBL (by omega),List.getElem_append_right h];simp only[e,Nat.sub_self,List.getElem_cons_zero];exact a _ (bR _)
end Go.Plain
end
section
namespace Go.Plain
open Go.Abs
section
variable{l:List aF}
theorem get_some(a:l.length<=300)(hs:bm l){k:Nat}(hk:k<l.length)(b:l[k].ay.length<=1000):Ys 1000 l l[k].Id=some (l[k],true):=by unfold Ys;rw[Fm a hs hk,aE];simp only[zM,a_,bn];rw[cj hk,aE,xV (by omega),aE]
theorem get_none(a:l.length<=300)(hs:bm l){id:Int}(h:∀j∈l,j.Id≠id):Ys 1000 l id=some (UO,false):=by unfold Ys;obtain ⟨r,e⟩:=Qj a hs h;rw[e,aE];rfl
theorem sQ(a:l.length<=300)(hs:bm l){k:Nat}(hk:k<l.length)(b:l[k].ay.length<=1000):KL 1000 l l[k].Id=some (l[k],true):=by unfold KL;rw[get_some a hs hk b,aE]
theorem Ct(a:l.length<=300)(hs:bm l){id:Int}(h:∀j∈l,j.Id≠id):KL 1000 l id=some (UO,false):=by unfold KL;rw[get_none a hs h,aE]
theorem set_ok(b:l.length<=300)(hs:bm l){k:Nat}(hk:k<l.length){j:aF}(a:bM j)(d:j.Id=l[k].Id):zcK 1000 l j=some (l.set k j,0):=by have:=a.cw;unfold zcK;rw[zfa a,aE,if_neg (by simp),d,Fm b hs hk,aE];dsimp only;rw[if_neg (by simp),xV (by omega),aE,cj hk,aE,xAb]
theorem BI(b:l.length<=300)(hs:bm l){k:Nat}(hk:k<l.length){j:aF}(d:bM j)(e:j.Id=l[k].Id){Q:List Int}(a:bL Q) :
  zbq 1000 Q l l[k] j=some (l.set k j,Ia Q l[k].Queue j.Queue,0):=by
 unfold zbq;rw[set_ok b hs hk d e,aE];dsimp only;rw[if_neg (by simp),BZ a,aE];dsimp only[dt];unfold Ia;by_cases h:j.Queue=l[k].Queue
 ·rw[if_neg (by simp[h]),if_pos h]
 ·rw[if_pos (by simpa using h),if_neg h,BZ (fO a _),aE]
end
end Go.Plain
end
section
namespace Go.Plain
open Go.Abs
structure JS (st:bj):Prop where
 dU:nr st
 aY:bm st.ae
 ok:∀j∈st.ae,bM j
 stamps:bL st.aj.ah
theorem Us{s:aU}{st:bj}(a:dN s st)(q:aI s st):JS st:=
 ⟨JR a q,q.aR.aY,λj b=>(q.aR.each j b).ok,q.use.stamps⟩
theorem JS.set{st:bj}(h:JS st){k:Nat}(hk:k<st.ae.length){j:aF}(s:j.Id=st.ae[k].Id)(o:bM j){Q:List Int}(u:bL Q)(z:Q.length=st.aj.ah.length){n:Int}:JS { st with ae:=st.ae.set k j,aj:={ ah:=Q,am:=n } }:=by
 have m:∀x∈st.ae.set k j,x∈st.ae∨x=j:=λx i=>Vr i;refine ⟨⟨by simpa using h.dU.aR,λx i=>?_,h.dU.aW,h.dU.Rq,h.dU.ids,h.dU.sh,h.dU.cI,h.dU.use,by rw[z];exact h.dU.stamps⟩,pU h.aY hk s,λx i=>?_,u⟩
 ·rcases m x i with e | e
  ·exact h.dU.after x e
  ·subst e;have:=o.cw;omega
 ·rcases m x i with e | e
  ·exact h.ok x e
  ·subst e;exact o
end Go.Plain
end
section
namespace Go.Plain
open Go.Abs
theorem NF{F:List aJ}{A:List bp}:(bY F A).length=F.length:=by
 induction A generalizing F with
 |nil=>rfl
 |cons a A ih=>have:=ih (F:=mP F a);rw[VH] at this;exact this
theorem ug{A:List bp}:∀{F:List aJ}{i:Nat}(h:i<F.length)(b:i<(bY F A).length)(c:Nat),cmp c (bY F A)[i]=cmp c F[i]-ow A i c:=by
 induction A with
 |nil=>intro F i h b c;simp[bY,ow]
 |cons a A ih=>
  intro F i h b c;have d:i<(mP F a).length:=by rw[VH];exact h
  have:=ih (F:=mP F a) d (by rw[NF,VH];exact h) c;rw[sM,yR,gh,DP] at this;rw[Zq];have e:(bY F (a::A))[i]=(bY (mP F a) A)[i]'(by rw[NF,VH];exact h):=rfl;rw[e,this];omega
def qB(F:List aJ)(a:bp):List aJ:=F.mapIdx λi r=>Lo r (mulR (dZ a.an i) a.au)
theorem iU{F:List aJ}{a:bp}:(qB F a).length=F.length:=by simp[qB]
theorem yG{F:List aJ}{a:bp}{i:Nat}(h:i<(qB F a).length):(qB F a)[i]=Lo (F[i]'(by rwa [iU] at h)) (mulR (dZ a.an i) a.au):=by simp[qB]
def xG(A:List bp)(id:Int):List bp:=A.filter λb=>decide (b.aK≠id)
theorem tD{A:List bp}{id:Int}(h:∀a∈A,a.aK≠id):xG A id=A:=by unfold xG;rw[xAk];intro a b;simpa using h a b
theorem mU{A:List bp}(h:nN A){a:bp}(d:a∈A)(i:Int)(c:Nat):ow A i c=ow (xG A a.aK) i c+dZ a.an i * cmp c a.au:=by
 induction A with
 |nil=>cases d
 |cons b A ih=>
  unfold nN at h;rw[oK,yBP] at h;have g:∀x∈A,b.aK<x.aK:=λx f=>h.1 x.aK (jJ.2 ⟨x,f,rfl⟩);rcases me.1 d with e | d
  ·subst e;have:xG (a::A) a.aK=A:=by
    unfold xG;rw[yBN (by simp)];exact tD λx f=>by have:=g x f;omega
   rw[this,Zq];omega
  ·have:=g a d;have e:xG (b::A) a.aK=b::xG A a.aK:=by
    unfold xG;rw[yBO (by simp;omega)]
   rw[e,Zq,Zq,ih h.2 d];omega
theorem IZ{A:List bp}(h:nN A)(id:Int):tT (A.map λa=>(a.aK,a)) id=(xG A id).map λa=>(a.aK,a):=by
 induction A with
 |nil=>rfl
 |cons b A ih=>
  unfold nN at h;rw[oK,yBP] at h;have f:∀x∈A,b.aK<x.aK:=λx d=>h.1 x.aK (jJ.2 ⟨x,d,rfl⟩);simp only[oK,tT];by_cases e:b.aK=id
  ·rw[if_pos e];have:xG (b::A) id=A:=by
    unfold xG;rw[yBN (by simpa using e)];exact tD λx d=>by have:=f x d;omega
   rw[this]
  ·rw[if_neg e,ih h.2];have:xG (b::A) id=b::xG A id:=by
    unfold xG;rw[yBO (by simpa using e)]
   rw[this,oK]
theorem L_{A:List bp}(h:nN A)(id:Int):nN (xG A id):=by unfold nN at h ⊢;rw[List.pairwise_map] at h ⊢;exact h.filter _
theorem fG{A:List bp}{id:Int}{a:bp}(h:a∈xG A id):a∈A/\a.aK≠id:=by unfold xG at h;rw[S_] at h;exact ⟨h.1,by simpa using h.2⟩
theorem FK{A:List bp}(h:nN A)(id:Int):(∃a∈A,a.aK=id/\bT (A.map λa=>(a.aK,a)) id=some a)∨((∀a∈A,a.aK≠id)/\bT (A.map λa=>(a.aK,a)) id=none):=by
 by_cases d:∃a∈A,a.aK=id
 ·obtain ⟨a,b,e⟩:=d;obtain ⟨i,g,rfl⟩:=pD b;exact .inl ⟨_,b,e,by rw[<-e];exact Ci h i g⟩
 ·have f:∀a∈A,a.aK≠id:=λa b e=>d ⟨a,b,e⟩;exact .inr ⟨f,Fa f⟩
theorem add_ok{a b:aJ}(d:aX a)(e:aX b):ce (AX 1000 a b) λr=>(r.2=0↔aX (Lo a b))/\(r.2=0->r.1=Lo a b):=by
 simp only[AX,dt];obtain ⟨o,g,h⟩:=Mk a;have i:=h.2 d;subst i;obtain ⟨p,j,k⟩:=Mk b;have m:=k.2 e;subst m;have f:∀{x y:Int},0<=x/\x<=1048576->0<=y/\y<=1048576->wg x y=some (x+y):=λ{x y} q s=>by unfold wg;rw[if_pos (by omega)]
 simp only[g,j,Option.bind_some,zM,a_,bn,Vv,f d.Av e.Av,f d.mem e.mem,f d.Br e.Br,f d.BH e.BH];have:=d.Av;have:=d.mem;have:=d.Br;have:=d.BH;have:=e.Av;have:=e.mem;have:=e.Br;have:=e.BH;refine (zE (by omega) (by omega) (by omega) (by omega)).bind λr n=>?_;rw[bA];exact n
def Dx(F:List aJ)(a:bp):Prop:=∀r∈qB F a,aX r
theorem XK{a:bp}{F:List aJ}(hF:F.length<=300)(hl:a.an.length<=300)(Q:bK a.an F.length)(E:aX a.au)(T:∀r∈F,aX r) :
  ce (zbO 1000 a F) λr=>(r.2=0↔Dx F a)/\(r.2=0->r.1=qB F a):=by
 simp only[zbO,zaO,jk (show F.length<=1000000 by omega),Option.bind_some];have nn:∀x∈a.an,0<=x.aD:=λx s=>by have:=Q.mem x s;omega
 refine oe a.an.length (λk x=>x.1=(k:Int)/\x.2.length=F.length/\(∀r∈x.2,aX r)/\∀i (h:i<x.2.length) (j:i<F.length),x.2[i]=Lo F[i] (mulR (dZ (a.an.take k) i) a.au)) (λk x f hk s M=>?_) (λx f s=>?_) ⟨rfl,rfl,T,λi h j=>?_⟩ (by omega)
 ·obtain ⟨U,G⟩:=x;obtain ⟨rfl,b,d,g⟩:=s;dsimp only at b d g ⊢;have q:=Q.mem _ (bR hk);have K:a.an[k].Node.toNat<G.length:=by omega
  have w:a.an[k].Node.toNat<F.length:=by omega
  have L:((a.an[k].Node.toNat:Nat):Int)=a.an[k].Node:=by omega
  have W:=py hk a.an[k].Node;rw[if_pos rfl] at W;have le:=Li nn (k+1) a.an[k].Node;have n0:=zJ (l:=a.an.take k) (λx s=>nn x (WV s)) a.an[k].Node;have N:=g _ K w;rw[L] at N;have bad:(∃c,cmp c G[a.an[k].Node.toNat]+a.an[k].aD * cmp c a.au > 1048576)->¬Dx F a:=λ⟨c,y⟩ z=>by
   have X:a.an[k].Node.toNat<(qB F a).length:=by rw[iU];exact w
   have A:=Bs.1 (z _ (bR X)) c;rw[yG,kG,DP,L] at A;rw[N,kG,DP] at y;have n:0<=cmp c a.au:=(Bs.1 E c).1;have Y:(dZ (a.an.take k) a.an[k].Node+a.an[k].aD) * cmp c a.au<=dZ a.an a.an[k].Node * cmp c a.au:=ZQ (by omega) n;rw[yBR] at Y;omega
  simp only[cK hk,if_true,cj hk,Option.bind_some,bV (show k<1000000 by omega)];refine (Ca E q.2.2).bind λr t=>?_;simp only[bD,bA,Ak,ne_eq,HH];refine ⟨λh=>⟨⟨λj=>absurd j h,λz=>?_⟩,λj=>absurd j h⟩,λh=>?_⟩
  ·exfalso;refine bad ?_ z;have m:¬aX (mulR a.an[k].aD a.au):=λv=>h (t.1.2 v);rw[Bs] at m;obtain ⟨c,y⟩:=yBG.1 m;refine ⟨c,?_⟩;rw[DP] at y;have A:=dL (show 0<=a.an[k].aD/\a.an[k].aD<=64 by omega) (Bs.1 E c);have n:=Bs.1 (d _ (bR K)) c;omega
  ·have Z:=t.2 h;have v1:=t.1.1 h;obtain ⟨ad,e⟩:=ey (l:=G) (x:=a.an[k].Node) (by omega) (by omega);rw[e,aE,Z];refine (add_ok (d _ (bR K)) v1).bind λr2 u=>?_;simp only[Option.bind_some,bD,bA,Ak,ne_eq,HH];refine ⟨λj=>⟨⟨λn=>absurd n j,λz=>?_⟩,λn=>absurd n j⟩,λj=>?_⟩
   ·exfalso;refine bad ?_ z;have m:¬aX (Lo G[a.an[k].Node.toNat] (mulR a.an[k].aD a.au)):=λv=>j (u.1.2 v);rw[Bs] at m;obtain ⟨c,y⟩:=yBG.1 m;refine ⟨c,?_⟩;rw[kG,DP] at y;have A:=dL (show 0<=a.an[k].aD/\a.an[k].aD<=64 by omega) (Bs.1 E c);have n:=Bs.1 (d _ (bR K)) c;omega
   ·have R:=u.2 j;have v2:=u.1.1 j;refine M _ ⟨rfl,by simpa using b,λr o=>?_,λi O P=>?_⟩
    ·dsimp only at o;rcases Vr o with o | rfl
     ·exact d r o
     ·rw[R];exact v2
    ·dsimp only at O ⊢;rw[SU] at O;rw[List.getElem_set];have p:=py hk (i:Int);split
     ·rename_i S;subst S;rw[R,N];rw[if_pos L.symm] at p;rw[p];refine yy λc=>?_;rw[kG,kG,kG,DP,DP,DP,yBR,L];omega
     ·rename_i S;rw[if_neg (by omega),CQ] at p;rw[g i O P,p]
 ·obtain ⟨U,G⟩:=x;obtain ⟨rfl,b,d,g⟩:=s;dsimp only at b d g ⊢;simp only[cM,a_,bn,bA,DO,KG,true_implies] at g ⊢;have e:G=qB F a:=List.ext_getElem (by rw[b,iU]) λi A n=>by rw[yG n];exact g i A (by omega)
  exact ⟨λr M=>d r (by rw[e];exact M),e⟩
 ·refine yy λc=>?_;rw[kG,DP];simp[dZ]
theorem We{A:List bp}{F:List aJ}(g:nN A)(n:F.length<=300)(hs:∀a∈A,a.an.length<=300)(k:qH F.length A)(o:∀r∈F,aX r)(id:Int) :
  ce (zb0 1000 (A.map λa=>(a.aK,a)) id F) λr=>(r.2.1≠0/\r.1=(A.map λa=>(a.aK,a))/\r.2.2=F/\∀a∈A,a.aK=id->¬Dx F a) ∨
   (∃a∈A,a.aK=id/\Dx F a/\r=((xG A id).map (λa=>(a.aK,a)),0,qB F a)):=by
 unfold zb0;rcases FK g id with ⟨a,d,e,h⟩ | ⟨i,h⟩
 ·rw[h];simp only[KK];refine (XK n (hs a d) (k a d).1 (k a d).2 o).bind λr j=>?_;rw[bD];refine ⟨λf=>?_,λf=>?_⟩
  ·simp only[Ak,ne_eq] at f;rw[bA];refine .inl ⟨f,rfl,rfl,λb p q s=>?_⟩;have:b=a:=by
    rcases FK g id with ⟨c,u,v,w⟩ | ⟨i,_⟩
    ·obtain ⟨m,t,rfl⟩:=pD p;have:=Ci g m t;rw[q] at this;rw[show bT (mapA A) id=some a from h] at this;injection this with this
     exact this.symm
    ·exact absurd e (i a d)
   subst this;exact f (j.1.2 s)
  ·simp only[Ak,ne_eq,HH] at f;rw[bA,j.2 f,IZ g];exact .inr ⟨a,d,e,j.1.1 f,rfl⟩
 ·rw[h];simp only[KK];rw[bA];exact .inl ⟨by simp,rfl,rfl,λa d e=>absurd e (i a d)⟩
def cz(x what:Int):Option Int:=
 if what=1/\x=1 then some 2 else if what=2/\x=2 then some 1 else if what=3/\x=1 then some 3 else if what=4/\x=3 then some 1 else if what=5/\x=3 then some 4 else if what=6/\x=3 then some 4
 else if what=6/\bo x then some 6 else if what=7/\(x=3∨x=4) then some 5 else if what=8/\x=4 then some 6 else none
theorem Fu(x what:Int):pr 1000 x what=some ((cz x what).getD 0,(cz x what).isSome):=by
 unfold pr cz;simp only[dt,fF,dK,Option.bind_some,bJ,lm];by_cases d:what=1/\x=1
 ·rw[if_pos d,if_pos d];rfl
 rw[if_neg d,if_neg d];by_cases e:what=2/\x=2
 ·rw[if_pos e,if_pos e];rfl
 rw[if_neg e,if_neg e];by_cases f:what=3/\x=1
 ·rw[if_pos f,if_pos f];rfl
 rw[if_neg f,if_neg f];by_cases g:what=4/\x=3
 ·rw[if_pos g,if_pos g];rfl
 rw[if_neg g,if_neg g];by_cases i:what=5/\x=3
 ·rw[if_pos i,if_pos i];rfl
 rw[if_neg i,if_neg i];by_cases j:what=6/\x=3
 ·rw[if_pos j,if_pos j];rfl
 rw[if_neg j,if_neg j];by_cases k:what=6
 ·rw[if_pos k];by_cases m:bo x
  ·rw[if_pos (by simpa using m),if_pos ⟨k,m⟩];rfl
  ·have b:¬what=7:=by omega
   have a:¬(what=8/\x=4):=by omega
   rw[if_neg (by simpa using m),if_neg (show ¬(what=6/\bo x) from λh=>m h.2),if_neg b,if_neg (show ¬(what=7/\(x=3∨x=4)) from λh=>b h.1),if_neg (by simp),if_neg a,if_neg a];rfl
 ·rw[if_neg k,if_neg (show ¬false=true by simp),if_neg (show ¬(what=6/\bo x) from λh=>k h.1)];by_cases b:what=7
  ·rw[if_pos b];by_cases n:x=3∨x=4
   ·rw[if_pos (by simpa using n),if_pos ⟨b,n⟩];rfl
   ·have a:¬(what=8/\x=4):=by omega
    rw[if_neg (by simpa using n),if_neg (show ¬(what=7/\(x=3∨x=4)) from λh=>n h.2),if_neg a,if_neg a];rfl
  ·rw[if_neg b,if_neg (show ¬false=true by simp),if_neg (show ¬(what=7/\(x=3∨x=4)) from λh=>b h.1)];by_cases a:what=8/\x=4
   ·rw[if_pos a,if_pos a];rfl
   ·rw[if_neg a,if_neg a];rfl
def fI(x:Int):Prop:=x=3∨x=4
instance (x:Int):Decidable (fI x):=by unfold fI;infer_instance
theorem Db(x:Int):dK 1000 x=some (decide (fI x)):=by unfold dK;congr 1;rw[yB8];rw[bb];simp only[dW,lm,fI]
def im(x:Int):Prop:=x=5∨x=6
instance (x:Int):Decidable (im x):=by unfold im;infer_instance
theorem Qm(x:Int):Vs 1000 x=some (decide (im x)):=by unfold Vs;congr 1;rw[yB8];rw[bb];simp only[dW,lm,im]
def bx (j:aF) (what a:Int) (ok:Bool) (b:Int):aF:=
  { j with
    State:=b
    ab:=j.ab+1
    Ok:=if what=5 then ok else if what=6∨what=8∨what=7∧j.State=3 then false else j.Ok
    bG:=if what=6 then true else if what=7 then false else j.bG
    Start:=if what=3 then a else if what=4 then 0 else j.Start
    End:=if im b then a else j.End }
theorem iJ{j:aF}(h:bM j){what k:Int}(u:0<=k/\k<=1099511627776)(ok:Bool){d:Int}(hs:cz j.State what=some d)(y:j.ab<281474976710656):bM (bx j what k ok d):=by
 have v:=h.version;have w:=h.start;have n:=h.fin;have o:=h.state.start;have p:=h.state.fin;have r:=h.state.ok;have s:=h.state.kill;have g:(what=1/\j.State=1/\d=2)∨(what=2/\j.State=2/\d=1)∨(what=3/\j.State=1/\d=3)∨(what=4/\j.State=3/\d=1)∨(what=5/\j.State=3/\d=4)∨(what=6/\j.State=3/\d=4)∨(what=6/\bo j.State/\d=6)∨(what=7/\(j.State=3∨j.State=4)/\d=5)∨(what=8/\j.State=4/\d=6):=by
  unfold cz at hs;split at hs
  ·simp only[aw] at hs;exact .inl ⟨by omega,by omega,by omega⟩
  split at hs
  ·simp only[aw] at hs;exact .inr (.inl ⟨by omega,by omega,by omega⟩)
  split at hs
  ·simp only[aw] at hs;exact .inr (.inr (.inl ⟨by omega,by omega,by omega⟩))
  split at hs
  ·simp only[aw] at hs;exact .inr (.inr (.inr (.inl ⟨by omega,by omega,by omega⟩)))
  split at hs
  ·simp only[aw] at hs;exact .inr (.inr (.inr (.inr (.inl ⟨by omega,by omega,by omega⟩))))
  split at hs
  ·simp only[aw] at hs;exact .inr (.inr (.inr (.inr (.inr (.inl ⟨by omega,by omega,by omega⟩)))))
  split at hs
  ·rename_i q;simp only[aw] at hs;exact .inr (.inr (.inr (.inr (.inr (.inr (.inl ⟨q.1,q.2,by omega⟩))))))
  split at hs
  ·rename_i q;simp only[aw] at hs;exact .inr (.inr (.inr (.inr (.inr (.inr (.inr (.inl ⟨q.1,q.2,by omega⟩)))))))
  split at hs
  ·simp only[aw] at hs;exact .inr (.inr (.inr (.inr (.inr (.inr (.inr (.inr ⟨by omega,by omega,by omega⟩)))))))
  ·simp at hs
 have f:j.State<4->j.Ok=false:=λm=>by
  cases hk:j.Ok with
  |false=>rfl
  |true=>have:=r hk;omega
 have b:j.State<4->j.bG=false:=λm=>by
  cases hk:j.bG with
  |false=>rfl
  |true=>have:=s hk;omega
 have t:bo j.State->j.State<3:=λx=>by rcases x with e | e <;> omega
 refine ⟨h.id,h.user,h.queue,h.AT,h.cp,h.ny,h.wall,h.cw,h.after,by simp only[bx];omega,h.born,?_,?_,h.arr,?_⟩
 ·simp only[bx];split
  ·exact u
  ·split <;> omega
 ·simp only[bx];split
  ·exact u
  ·exact n
 ·have i:j.State<3->j.Start=0:=λm=>yBo λq=>by have:=o q;omega
  have a:j.State<5->j.End=0:=λm=>yBo λq=>by have:=p q;omega
  rcases g with ⟨rfl,e,rfl⟩ | ⟨rfl,e,rfl⟩ | ⟨rfl,e,rfl⟩ | ⟨rfl,e,rfl⟩ | ⟨rfl,e,rfl⟩ | ⟨rfl,e,rfl⟩ | ⟨rfl,e,rfl⟩ | ⟨rfl,e,rfl⟩ | ⟨rfl,e,rfl⟩
  ·constructor <;> simp[bx,im,f (by omega),b (by omega),i (by omega),a (by omega)]
  ·constructor <;> simp[bx,im,f (by omega),b (by omega),i (by omega),a (by omega)]
  ·constructor <;> simp[bx,im,f (by omega),b (by omega),i (by omega),a (by omega)]
  ·constructor <;> simp[bx,im,f (by omega),b (by omega),a (by omega)]
  ·constructor <;> simp[bx,im,b (by omega),a (by omega)]
  ·constructor <;> simp[bx,im,a (by omega)]
  ·have:=t e;constructor <;> simp[bx,im,f (by omega),b (by omega),i (by omega),a (by omega)]
  ·constructor <;> simp[bx,im]
  ·constructor <;> simp[bx,im]
theorem IF{j:aF}(h:bM j){what a:Int}(v:0<=a/\a<=1099511627776)(ok:Bool) :
  ce (ua 1000 j what a ok) λr=>(r.2≠0/\(cz j.State what=none∨j.ab=281474976710656))∨∃b,cz j.State what=some b/\j.ab<281474976710656/\r=(bx j what a ok b,0):=by
 have p:=h.version;have w:=h.cw;unfold ua;dsimp only[dt];rw[zfa h,aE,if_neg (by simp)];simp only[KH,Option.bind_some];rw[if_neg (by simp;omega),Fu,aE];cases hs:cz j.State what with
 |none=>rw[if_pos (by simp),bA];exact .inl ⟨by simp,.inl rfl⟩
 |some b=>
  dsimp only[Option.isSome,Option.getD];rw[if_neg (by simp),bD];refine ⟨λn=>by rw[bA];exact .inl ⟨by simp,.inr (by simpa using n)⟩,λn=>?_⟩;simp only[lm] at n;rw[show Xq 1000 j.ay=some j.ay from jk (by omega),aE,wr (x:=j.ab+1) (by omega) (by omega)];simp only[Qm,Option.bind_some,lm,Ak,ne_eq,ic,bb];have fin:∀(o k:Bool)(t:Int),o=(if what=5 then ok else if what=6∨what=8∨what=7/\j.State=3 then false else j.Ok)->k=(if what=6 then true else if what=7 then false else j.bG)->t=(if what=3 then a else if what=4 then 0 else j.Start) ->
    ce (if im b then some (({ Id:=j.Id,az:=j.az,Queue:=j.Queue,aD:=j.aD,au:=j.au,aN:=j.aN,ay:=j.ay,State:=b,Ok:=o,bG:=k,ab:=j.ab+1,bI:=j.bI,Start:=t,End:=a,Array:=j.Array }:aF),(0:Int)) else some (({ Id:=j.Id,az:=j.az,Queue:=j.Queue,aD:=j.aD,au:=j.au,aN:=j.aN,ay:=j.ay,State:=b,Ok:=o,bG:=k,ab:=j.ab+1,bI:=j.bI,Start:=t,End:=j.End,Array:=j.Array }:aF),(0:Int)))
     λr=>(r.2≠0/\((some b:Option Int)=none∨j.ab=281474976710656))∨∃d,(some b:Option Int)=some d/\j.ab<281474976710656/\r=(bx j what a ok d,0):=λo k t s hk u=>by
   subst s hk u;rw[bD];refine ⟨λq=>?_,λq=>?_⟩ <;> rw[bA] <;> refine .inr ⟨b,rfl,by omega,?_⟩ <;> simp only[bx,q,if_true,bn]
  by_cases w3:what=3
  ·rw[if_pos w3];subst w3;refine fin _ _ _ ?_ ?_ ?_ <;> simp
  rw[if_neg w3];by_cases w4:what=4
  ·rw[if_pos w4];subst w4;refine fin _ _ _ ?_ ?_ ?_ <;> simp
  rw[if_neg w4];by_cases e:what=5
  ·rw[if_pos e];subst e;refine fin _ _ _ ?_ ?_ ?_ <;> simp
  rw[if_neg e];by_cases f:what=6
  ·rw[if_pos f];subst f;refine fin _ _ _ ?_ ?_ ?_ <;> simp
  rw[if_neg f];by_cases g:what=7
  ·rw[if_pos g];subst g;by_cases i:j.State=3
   ·rw[if_neg (by simpa using i)];refine fin _ _ _ ?_ ?_ ?_ <;> simp[i]
   ·rw[if_pos i];refine fin _ _ _ ?_ ?_ ?_ <;> simp[i]
  rw[if_neg g];by_cases m:what=8
  ·rw[if_pos m];subst m;refine fin _ _ _ ?_ ?_ ?_ <;> simp
  rw[if_neg m];refine fin _ _ _ ?_ ?_ ?_ <;> simp[w3,w4,e,f,g,m]
end Go.Plain
end
section
namespace Go.Plain
open Go.Abs
structure AS (st:bj) (F:List aJ):Prop where
 HP:qH F.length st.ai
 few:F.length<=300
 vec:∀r∈F,aX r
 nodes:0<=st.aj.am
 now:0<=st.bF/\st.bF<=1099511627776
theorem yU{s:aU}{st:bj}(q:aI s st):qH s.am.length st.ai:=λa b=>by obtain ⟨j,d,P⟩:=q.aW.mem a b;exact ⟨P.xK.shares,by rw[P.cp];exact (q.aR.each j d).ok.cp⟩
theorem J_{s:aU}{st:bj}(q:aI s st):∀r∈bY s.am st.ai,aX r:=λr d=>by
 obtain ⟨i,b,rfl⟩:=pD d;have a:i<s.am.length:=by rwa [NF] at b
 refine Bs.2 λc=>?_;rw[ug a b c];have e:=(fP q.aW q.spec.nodes.ok).2 i a c;have f:=eW (yU q) i c;have g:=Bs.1 (q.spec.nodes.ok _ (bR a)) c;omega
theorem ZH{s:aU}{st:bj}(a:dN s st)(q:aI s st):AS st (bY s.am st.ai):=
 ⟨by rw[NF];exact yU q,by rw[NF];have:=a.spec.nodes;omega,J_ q,q.use.nodes.1,q.ee.now⟩
theorem Na{s:aU}{st:bj}(q:aI s st){a:bp}(d:a∈st.ai):Dx (bY s.am st.ai) a:=λr h=>by
 obtain ⟨i,j,rfl⟩:=pD h;have f:i<(bY s.am st.ai).length:=by rwa [iU] at j
 have e:i<s.am.length:=by rwa [NF] at f
 refine Bs.2 λc=>?_;rw[yG,kG,DP,ug e f c,mU (nC q) d];have k:=(fP q.aW q.spec.nodes.ok).2 i e c;have g:=yU q;have o:=eW (n:=s.am.length) (A:=xG st.ai a.aK) (λb m=>g b (fG m).1) i c;have p:=Bs.1 (q.spec.nodes.ok _ (bR e)) c;rw[mU (nC q) d] at k;have t:=Gw (g a d) i c;omega
def Wu(st:bj)(F:List aJ)(id:Int)(b:Prop)(d:List bp)(n:Int)(e:List aJ):Prop:=
 (¬b/\d=st.ai/\n=st.aj.am/\e=F) ∨
 (b/\n=Cw st.aj.am/\((d=st.ai/\e=F/\∀a∈st.ai,a.aK=id->¬Dx F a)∨∃a∈st.ai,a.aK=id/\Dx F a/\d=xG st.ai id/\e=qB F a))
theorem NY{st:bj}{F:List aJ}(k:JS st)(as:AS st F)(id what:Int)(ok:Bool) :
  ce (za1 1000 st.aj.ah st.ae (st.ai.map λa=>(a.aK,a)) id what ok st.bF st.aj.am F) λr=>
   (∃e,e≠0/\r=(st.aj.ah,st.ae,st.ai.map (λa=>(a.aK,a)),e,st.aj.am,F)/\(∀i,∀d:i<st.ae.length,st.ae[i].Id=id->what≠3->cz st.ae[i].State what=none∨st.ae[i].ab=281474976710656)) ∨
   ∃ i, ∃ d : i < st.ae.length, ∃ b z n A, st.ae[i].Id = id /\ what ≠ 3 /\ cz st.ae[i].State what = some b /\ st.ae[i].ab < 281474976710656 /\ Wu st F id (fI st.ae[i].State /\ ¬ fI b) z n A /\
    r=(Ia st.aj.ah st.ae[i].Queue st.ae[i].Queue,st.ae.set i (bx st.ae[i] what st.bF ok b),z.map (λa=>(a.aK,a)),0,n,A):=by
 have u:=k.dU.aR;unfold za1;rcases zL st.ae id with ⟨i,d,e⟩ | E
 ·subst e;have L:=bR d;have v:=k.ok _ L;have W:=v.cw;rw[get_some u k.aY d (by omega),aE];dsimp only;rw[if_neg (by simp),bD];refine ⟨λm=>?_,λm=>?_⟩
  ·rw[bA];simp only[lm] at m;exact .inl ⟨31,by simp,rfl,λ_ _ _ h=>absurd m h⟩
  ·simp only[lm] at m;refine (IF v as.now ok).bind λr G=>?_;rw[bD];refine ⟨λp=>?_,λp=>?_⟩
   ·rw[bA];simp only[Ak,ne_eq] at p;refine .inl ⟨r.2,p,rfl,λX w M _=>?_⟩;have:=k.aY.inj w d M;subst this;rcases G with ⟨_,q⟩ | ⟨b,_,_,q⟩
    ·exact q
    ·rw[q] at p;exact absurd rfl p
   ·simp only[Ak,ne_eq,HH] at p;rcases G with ⟨q,_⟩ | ⟨b,f,s,rfl⟩
    ·exact absurd p q
    have x:=iJ v as.now ok f s;dsimp only;rw[BI u k.aY d x (j:=bx st.ae[i] what st.bF ok b) rfl k.stamps,aE];dsimp only[dt];rw[if_neg (by simp),Db,aE];have N:(bx st.ae[i] what st.bF ok b).Queue=st.ae[i].Queue:=rfl;have O:(bx st.ae[i] what st.bF ok b).State=b:=rfl;rw[N,O];have K:∀o,¬(fI st.ae[i].State/\¬fI b)->(if (false:Bool)=true then o else some (Ia st.aj.ah st.ae[i].Queue st.ae[i].Queue,st.ae.set i (bx st.ae[i] what st.bF ok b),st.ai.map (λa=>(a.aK,a)),(0:Int),st.aj.am,F))=some (Ia st.aj.ah st.ae[i].Queue st.ae[i].Queue,st.ae.set i (bx st.ae[i] what st.bF ok b),st.ai.map (λa=>(a.aK,a)),(0:Int),st.aj.am,F):=λo _=>if_neg (by simp);by_cases c1:fI st.ae[i].State
    ·rw[if_pos (by simpa using c1),Db,aE];by_cases t:fI b
     ·rw[if_neg (by simpa using t),bA];exact .inr ⟨i,d,b,st.ai,_,_,rfl,m,f,s,.inl ⟨λh=>h.2 t,rfl,rfl,rfl⟩,rfl⟩
     ·rw[if_pos (by simpa using t)];refine (We k.dU.Rq as.few k.dU.sh as.HP as.vec st.ae[i].Id).bind λg P=>?_;rw[Im as.nodes,aE,bA];rcases P with ⟨Y,Q,R,S⟩ | ⟨a,y,T,U,rfl⟩
      ·exact .inr ⟨i,d,b,st.ai,_,_,rfl,m,f,s,.inr ⟨⟨c1,t⟩,rfl,.inl ⟨rfl,R,S⟩⟩,by rw[Q]⟩
      ·exact .inr ⟨i,d,b,xG st.ai st.ae[i].Id,_,_,rfl,m,f,s,.inr ⟨⟨c1,t⟩,rfl,.inr ⟨a,y,T,U,rfl,rfl⟩⟩,rfl⟩
    ·rw[if_neg (by simpa using c1),if_neg (by simp),bA];exact .inr ⟨i,d,b,st.ai,_,_,rfl,m,f,s,.inl ⟨λh=>c1 h.1,rfl,rfl,rfl⟩,rfl⟩
 ·rw[get_none u k.aY E,aE];dsimp only;rw[if_pos (by simp),bA];exact .inl ⟨30,by simp,rfl,λi d e=>absurd e (E _ (bR d))⟩
end Go.Plain
end
section
namespace Go.Plain
open Go.Abs
section
variable{l:List aF}
theorem EY(b:l.length<=300)(hs:bm l){k:Nat}(hk:k<l.length)(f:l[k].ay.length<=1000){j:aF}(d:bM j)(e:j.Id=l[k].Id)(g:bo l[k].State)(a:bo j.State){Q:List Int}(h:bL Q) :
  zbi 1000 Q l j=some (Ia Q l[k].Queue j.Queue,l.set k j,0):=by
 unfold zbi;rw[e,get_some b hs hk f,aE];dsimp only;rw[if_neg (by simp),zfa d,aE,if_neg (by simp)];dsimp only[dt];rw[fF,aE,if_neg (by simpa using g),fF,aE,if_neg (by simpa using a),BI b hs hk d e h,aE]
end
end Go.Plain
end
section
namespace Go.Plain
open Go.Abs
def Ng(a e:Int):eC:={ Key:=a,ko:=e,aK:=0,ab:=0,cP:=[] }
theorem IX{a b c d:Int}(e:a.natAbs<2 ^ 53)(f:b.natAbs<2 ^ 53)(g:c.natAbs<2 ^ 53)(hd:d.natAbs<2 ^ 53) :
  ce (ZC 1000 (a,b) (c,d)) λr=>r.2=0∨r.2=20:=by
 simp only[ZC,gE,nf e,nf f,nf g,nf hd,Option.bind_some];refine (Mk _).bind λr h=>?_;rw[bD];exact ⟨λ_=>by rw[bA];exact .inr rfl,λ_=>by rw[bA];exact .inl rfl⟩
theorem LV{a:aJ}{n:Int}(b:aX a)(f:a≠cq)(m:1<=n/\n<=64):ce (fN 1000 a n) λr=>r.2=0∨r.2=20:=by
 simp only[fN];obtain ⟨o,g,i⟩:=Mk a;have j:=i.2 b;subst j;have d:0<=n/\n<=64:=by omega
 simp only[g,Option.bind_some,zM,yBB];rw[if_neg (by simp;omega),if_neg (show ¬(aJ.beq a ({ bP:=0,Mem:=0,bS:=0,b_:=0 }:aJ)=true) from λh=>f (dD.1 h)),if_neg (by simp;omega)];have e:∀{x:Int},0<=x/\x<=1048576->qz x n=some (x * n):=λ{x} p=>by unfold qz;rw[if_pos (by omega)]
 have q:=dL d b.Av;have s:=dL d b.mem;have t:=dL d b.Br;have u:=dL d b.BH;simp only[Vv,Option.bind_some,e b.Av,e b.mem,e b.Br,e b.BH];rw[YV a.bP n,YV a.Mem n,YV a.bS n,YV a.b_ n];refine (IX (by omega) (by omega) (by omega) (by omega)).bind λr k=>?_;rw[bA];exact k
structure OC (r:dw):Prop where
 AT:1<=r.aD/\r.aD<=64
 cp:aX r.au
 ny:r.au≠cq
 wall:1<=r.aN/\r.aN<=65536
theorem i_{o:Option Bool}{p:Prop}(h:dv o p)(a:p):o=some true:=by obtain ⟨b,e,d⟩:=h;rw[e,d.2 a]
theorem yj{o:Option Bool}{p:Prop}(h:dv o p)(a:¬p):o=some false:=by
 obtain ⟨b,e,d⟩:=h;cases b with
 |false=>exact e
 |true=>exact absurd (d.1 rfl) a
open Classical in
noncomputable def wF(r:dw):Int:=
 if ¬(1<=r.aD/\r.aD<=64) then 2 else if ¬aX r.au then 2 else if r.au=cq then 2 else if ¬(1<=r.aN/\r.aN<=65536) then 2 else if aX (mulR r.aD r.au) then 0 else 20
theorem HO{r:dw}(h:wF r=0):OC r:=by
 unfold wF at h;split at h
 ·omega
 split at h
 ·omega
 split at h
 ·omega
 split at h
 ·omega
 rename_i a b d e;exact ⟨yBC.1 a,yBC.1 b,d,yBC.1 e⟩
theorem Un{a:aJ}:aJ.beq a ({ bP:=0,Mem:=0,bS:=0,b_:=0 }:aJ)=decide (a=cq):=by rw[yB8,bb];exact dD
theorem FL(r:dw):zer 1000 r=some (wF r):=by
 unfold zer wF;dsimp only[dt];by_cases d:1<=r.aD/\r.aD<=64
 ·rw[if_neg (show ¬((decide (r.aD<1)) || (decide (r.aD > 64)))=true by simp;omega),if_neg (JD d)];by_cases v:aX r.au
  ·rw[i_ (Mk r.au) v,aE,Un,if_neg (JD v)];by_cases a:r.au=cq
   ·rw[if_pos (by simp[a]),if_pos a]
   ·rw[if_neg (by simp[a]),if_neg a];by_cases f:1<=r.aN/\r.aN<=65536
    ·rw[if_neg (show ¬((decide (r.aN<1)) || (decide (r.aN > 65536)))=true by simp;omega),if_neg (JD f)];obtain ⟨t,g,i,_⟩:=Ca v d;obtain ⟨k,b,j⟩:=LV v a d;rw[g] at b;cases b;rw[g,aE];by_cases e:aX (mulR r.aD r.au)
     ·rw[if_pos e,i.2 e]
     ·rw[if_neg e];rcases j with h | h
      ·exact absurd (i.1 h) e
      ·rw[h]
    ·rw[if_pos (show ((decide (r.aN<1)) || (decide (r.aN > 65536)))=true by simp;omega),if_pos f]
  ·rw[yj (Mk r.au) v,aE,if_pos (by simp),if_pos v]
 ·rw[if_pos (show ((decide (r.aD<1)) || (decide (r.aD > 64)))=true by simp;omega),if_pos rfl,if_pos d]
theorem Cq(r:dw):zcv 1000 r=some (wF r):=by
 unfold zcv wF;dsimp only[dt];by_cases d:1<=r.aD/\r.aD<=64
 ·rw[if_neg (show ¬((decide (r.aD<1)) || (decide (r.aD > 64)))=true by simp;omega),if_neg (JD d)];by_cases v:aX r.au
  ·rw[i_ (kP r.au) v,aE,if_neg (show ¬(!true)=true by simp),show NM 1000 r.au ({ bP:=0,Mem:=0,bS:=0,b_:=0 }:aJ)=some (decide (r.au=cq)) from zj v,aE,if_neg (JD v)];by_cases a:r.au=cq
   ·rw[if_pos (by simp[a]),if_pos a]
   ·rw[if_neg a];by_cases e:1<=r.aN/\r.aN<=65536
    ·rw[if_neg (show ¬(decide (r.au=cq) || decide (r.aN<1) || decide (r.aN > 65536))=true by simp[a];omega),if_neg (JD e),zY v (by omega),aE];by_cases b:aX (mulR r.aD r.au)
     ·rw[if_pos b,i_ (kP _) b,aE,if_neg (by simp)]
     ·rw[if_neg b,yj (kP _) b,aE,if_pos (by simp)]
    ·rw[if_pos (show (decide (r.au=cq) || decide (r.aN<1) || decide (r.aN > 65536))=true by simp;omega),if_pos e]
  ·rw[yj (kP r.au) v,aE,if_pos (by simp),if_pos rfl,if_pos v]
 ·rw[if_pos (show ((decide (r.aD<1)) || (decide (r.aD > 64)))=true by simp;omega),if_pos rfl,if_pos d]
def fM(k:Int):Int:=if k=3 then 1 else if k=4 then 2 else if k=5 then 6 else 0
theorem Kg(k:Int):zdh 1000 k=some (fM k):=by
 unfold zdh fM;simp only[lm];split
 ·rfl
 ·split
  ·rfl
  ·split <;> rfl
theorem Ta{k:Int}(h:2<=k/\k<=5):aL ([0,0,(-1),1,2,6]:List Int) k=some (if k=2 then -1 else fM k)/\aL ([0,0,(-1),1,2,6]:List Int) ((k.toNat * 1:Nat):Int)=some (if k=2 then -1 else fM k):=by
 have:k=2∨k=3∨k=4∨k=5:=by omega
 rcases this with rfl | rfl | rfl | rfl <;> exact ⟨rfl,rfl⟩
theorem Xx(k:Int):pO 1000 k=some (decide (2<=k/\k<=5)):=by
 unfold pO;by_cases h:0<=k/\k<6
 ·rw[if_pos (by simp;omega)];have:k=0∨k=1∨k=2∨k=3∨k=4∨k=5:=by omega
  rcases this with rfl | rfl | rfl | rfl | rfl | rfl <;> rfl
 ·rw[if_neg (by simp;omega)];congr 1;symm;rw[Ux];omega
structure Nr (s:aU) (j:aF) (r:dw):Prop where
 kind:2<=r.Kind/\r.Kind<=5
 version:j.ab<s.aB
 mod:r.Kind=2->bo j.State/\OC r/\Bx 1000 s j.Queue r.aD r.au=some true
 step:r.Kind≠2->∃ns,cz j.State (fM r.Kind)=some ns
theorem Je{x w:Int}(d:w=1∨w=2∨w=6):zbV 1000 x w=some ((cz x w).getD 0):=by
 unfold zbV cz;simp only[dt];rcases d with rfl | rfl | rfl
 ·by_cases h:x=1
  ·subst h;rfl
  ·rw[if_pos (by simp),if_neg (by simpa using h),if_neg (by omega),if_neg (by omega),if_neg (by omega),if_neg (by omega),if_neg (by omega),if_neg (by omega),if_neg (by omega),if_neg (by omega),if_neg (by omega)];rfl
 ·by_cases h:x=2
  ·subst h;rfl
  ·rw[if_neg (by simp),if_pos (by simp),if_neg (by simpa using h),if_neg (by omega),if_neg (by omega),if_neg (by omega),if_neg (by omega),if_neg (by omega),if_neg (by omega),if_neg (by omega),if_neg (by omega),if_neg (by omega)];rfl
 ·rw[if_neg (by simp),if_neg (by simp),if_neg (by simp),if_neg (by simp),if_neg (by simp),if_pos (by simp)];by_cases h:x=3
  ·subst h;rfl
  ·rw[if_neg (show ¬(x == 3)=true by simpa using h)];by_cases b:bo x
   ·have a:x=1∨x=2:=b;rw[if_pos (show ((x == 1) || (x == 2))=true by simpa using a),if_neg (by omega),if_neg (by omega),if_neg (by omega),if_neg (by omega),if_neg (by omega),if_neg (show ¬((6:Int)=6/\x=3) from λq=>h q.2),if_pos ⟨rfl,b⟩];rfl
   ·have a:¬(x=1∨x=2):=b;rw[if_neg (show ¬((x == 1) || (x == 2))=true by simpa using a),if_neg (by omega),if_neg (by omega),if_neg (by omega),if_neg (by omega),if_neg (by omega),if_neg (show ¬((6:Int)=6/\x=3) from λq=>h q.2),if_neg (λq=>b q.2),if_neg (by omega),if_neg (by omega)];rfl
theorem Uq{x w a:Int}(h:cz x w=some a):a≠0:=by
 unfold cz at h
 repeat' split at h
 all_goals simp at h
 all_goals omega
theorem pH{k:Int}(h:2<=k/\k<=5)(a:k≠2):fM k=1∨fM k=2∨fM k=6:=by
 have:k=3∨k=4∨k=5:=by omega
 rcases this with rfl | rfl | rfl
 ·exact .inl rfl
 ·exact .inr (.inl rfl)
 ·exact .inr (.inr rfl)
noncomputable def Kq(s:aU)(j:aF)(r:dw):Int:=
 if r.Kind=2 then (if ¬bo j.State then 31 else if wF r≠0 then wF r else if Bx 1000 s j.Queue r.aD r.au=some true then 0 else 37) else if cz j.State (fM r.Kind)=none then 31 else 0
noncomputable def pZ(s:aU)(j:aF)(u:Int)(r:dw):Int:=
 if ¬(2<=r.Kind/\r.Kind<=5) then 2 else if u<0∨u≥s.aG then 2 else if u≠j.az/\u≠0 then 33 else if r.ab≠0/\r.ab≠j.ab then 32 else if Kq s j r≠0 then Kq s j r else if j.ab≥s.aB then 41 else 0
theorem MN{s:aU}{j:aF}{u:Int}{r:dw}(h:pZ s j u r=0):Nr s j r:=by
 unfold pZ at h;split at h
 ·omega
 rename_i hk;split at h
 ·omega
 split at h
 ·omega
 split at h
 ·omega
 split at h
 ·rename_i a;exact absurd h a
 rename_i a;split at h
 ·omega
 rename_i k;have a:=HH.1 a;refine ⟨yBC.1 hk,by omega,λb=>?_,λb=>?_⟩
 ·unfold Kq at a;rw[if_pos b] at a;split at a
  ·omega
  rename_i d;split at a
  ·rename_i hd;exact absurd a hd
  rename_i hd;split at a
  ·rename_i e;exact ⟨yBC.1 d,HO (HH.1 hd),e⟩
  ·omega
 ·unfold Kq at a;rw[if_neg b] at a;split at a
  ·omega
  rename_i f;cases g:cz j.State (fM r.Kind) with
  |none=>exact absurd g f
  |some i=>exact ⟨i,rfl⟩
theorem ID{s:aU}(hs:d_ s)(k:aZ s)(j:aF){r:dw}(hk:2<=r.Kind/\r.Kind<=5):gC 1000 s j r=some (Kq s j r):=by
 obtain ⟨f,g⟩:=Ta hk;unfold gC Kq;rw[f,g,aE,aE];by_cases a:r.Kind=2
 ·rw[if_pos a,if_neg (show ¬(((-1:Int)) != (-1))=true by simp),if_pos a,fF,aE];by_cases e:bo j.State
  ·rw[if_neg (by simpa using e),if_neg (JD e),FL,aE];by_cases d:wF r=0
   ·have D:=HO d;obtain ⟨b,f1,h⟩:=uz hs k (q:=j.Queue) (m:=r.aD) D.cp D.ny;rw[if_neg (by simpa using d),if_neg (JD d),f1,aE];cases b with
    |true=>rw[if_neg (by simp),if_pos rfl]
    |false=>rw[if_pos (by simp),if_neg (by simp)]
   ·rw[if_pos (by simpa using d),if_pos d]
  ·rw[if_pos (by simpa using e),if_pos e]
 ·have i:=pH hk a;rw[if_neg a,if_pos (show (fM r.Kind != (-1))=true by simp;omega),if_neg a,aE,aE,Fu,aE];cases n:cz j.State (fM r.Kind) with
  |none=>rw[if_pos (by simp),if_pos rfl]
  |some o=>rw[if_neg (by simp),if_neg (by simp)]
theorem TF{s:aU}(hs:d_ s)(k:aZ s){j:aF}(f:bM j)(u:Int)(r:dw):mK 1000 s j u r=some (pZ s j u r):=by
 unfold mK pZ;dsimp only[dt];rw[Xx,aE];by_cases hk:2<=r.Kind/\r.Kind<=5
 rotate_left
 ·rw[if_pos (show (!decide (2<=r.Kind/\r.Kind<=5))=true by simp;omega),if_pos rfl,if_pos hk]
 rw[if_neg (show ¬(!decide (2<=r.Kind/\r.Kind<=5))=true by simp;omega),zf hs k,aE,if_neg (show ¬(!true)=true by simp),zfa f,aE,if_neg (JD hk)];by_cases e:u<0∨u≥s.aG
 ·rw[if_pos (by simp;omega),if_pos e]
 rw[if_neg (by simp;omega),if_neg e];by_cases hd:u≠j.az/\u≠0
 ·rw[if_pos (by simp;exact hd),if_pos hd]
 rw[if_neg (by simp;omega),if_neg hd];by_cases d:r.ab≠0/\r.ab≠j.ab
 ·rw[if_pos (by simp;exact d),if_pos d]
 rw[if_neg (by simp;omega),if_neg d,ID hs k j hk,aE];by_cases a:Kq s j r=0
 ·rw[if_neg (by simpa using a),if_neg (JD a)];by_cases b:j.ab≥s.aB
  ·rw[if_pos (by simpa using b),if_pos b]
  ·rw[if_neg (by simpa using b),if_neg b]
 ·rw[if_pos (by simpa using a),if_pos a]
theorem Ka{s:aU}(hs:d_ s)(k:aZ s){j:aF}(h:bM j)(u:Int)(r:dw):zdO 1000 s j u r=some (pZ s j u r):=by
 have z:=h.cw;unfold zdO pZ;dsimp only[dt];rw[i_ (EE s hs) k,aE,if_neg (show ¬(!true)=true by simp),i_ (nR j (by omega)) h,aE];by_cases hk:2<=r.Kind/\r.Kind<=5
 rotate_left
 ·rw[if_pos (by simp;omega),if_pos hk]
 rw[if_neg (JD hk)];by_cases o:u<0∨u≥s.aG
 ·rw[if_pos (by simp;omega),if_pos o]
 rw[if_neg (by simp;omega),if_neg o];by_cases hd:u≠j.az/\u≠0
 ·rw[if_pos (by simp;exact ⟨hd.2,hd.1⟩),if_pos hd]
 rw[if_neg (by simp;omega),if_neg hd];by_cases i:r.ab≠0/\r.ab≠j.ab
 ·rw[if_pos (by simp;exact i),if_pos i]
 rw[if_neg (by simp;omega),if_neg i];have st:=h.state.st;have a:∀{p:Int},p=0->(if (decide (j.ab≥s.aB))=true then some (41:Int) else some 0)=some (if p≠0 then p else if j.ab≥s.aB then 41 else 0):=λ{p} v=>by
  rw[if_neg (JD v)];by_cases f:j.ab≥s.aB
  ·rw[if_pos (by simpa using f),if_pos f]
  ·rw[if_neg (by simpa using f),if_neg f]
 unfold Kq;by_cases d:r.Kind=2
 ·rw[if_pos d];by_cases g:bo j.State
  ·have n:j.State=1∨j.State=2:=g;rw[if_neg (show ¬((r.Kind == 2)&&(decide (j.State > 2)))=true by simp;omega),if_neg (show ¬(r.Kind != 2)=true by simpa using d),if_neg (show ¬(false=true) by simp),if_pos (show (r.Kind == 2)=true by simpa using d),Cq,aE,if_neg (JD g)];by_cases e:wF r=0
   ·have D:=HO e;obtain ⟨b,f1,w⟩:=uz hs k (q:=j.Queue) (m:=r.aD) D.cp D.ny;rw[if_neg (show ¬(wF r != 0)=true by simpa using e),if_neg (JD e),f1,w,aE];cases b with
    |true=>rw[if_neg (show ¬(!true)=true by simp),if_pos rfl];exact a rfl
    |false=>rw[if_pos (show (!false)=true by simp),if_neg (show ¬(some false=some true) by simp)];rfl
   ·rw[if_pos (show (wF r != 0)=true by simpa using e),if_pos (c:=wF r≠0) e,if_pos e]
  ·have n:¬(j.State=1∨j.State=2):=g;rw[if_pos (show ((r.Kind == 2)&&(decide (j.State > 2)))=true by simp;omega),if_pos rfl,if_pos g];rfl
 ·have x:=pH hk d;rw[if_neg (show ¬((r.Kind == 2)&&(decide (j.State > 2)))=true by simp[d]),if_pos (show (r.Kind != 2)=true by simpa using d),Kg,aE,Je x,aE,if_neg d];cases y:cz j.State (fM r.Kind) with
  |none=>rw[if_pos (by simp),if_pos rfl];rfl
  |some t=>have:=Uq y;rw[if_neg (show ¬(((some t).getD 0 == (0:Int))=true) by simpa using this),if_neg (show ¬(r.Kind == 2)=true by simpa using d),if_neg (show ¬(some t=none) by simp)];exact a rfl
end Go.Plain
end
