/- TyL3, TyL4, TyL5, TyP8, TyP9, TyPA, TyL6, TyPB, TyPC -/
import Derived.Test.YtdfbphphacpkdaaGreatLawA
set_option linter.all false
section
namespace Go.Plain
open Go.Abs
theorem dh.pw{l:List bF}(h:dh l):l.Pairwise λa b=>a.At<b.At:=We.2 λi j u s o=>h.lt o s
theorem Xq{l:List bF}(d:0<l.length)(h:l.Pairwise λa b=>a.At<b.At)(e:∀s∈l,(0<=s.At/\s.At<=281474976710656)/\aK s.bQ):dh l:=
 ⟨d,λi f=>We.1 h i (i+1) (by omega) f (by omega),e⟩
theorem uN.ex{l:List bF}(hs:dh l){t:Int}(x:(l[0]'hs.ne).At<=t):∃v,uN l t v:=by
 have:∀n,0<n->n<=l.length->∃v,uN (l.take n) t v:=by
  intro n;induction n with
  |zero=>intro h;omega
  |succ n ih=>
   intro _ hn;rcases yCg n with rfl | z
   ·refine ⟨l[0].bQ,l[0],?_,x,λo i _=>?_,rfl⟩
    ·rw[QZ (by omega)];exact .inr rfl
    ·rcases (QZ (show 0<l.length by omega)).1 i with i | e
     ·simp at i
     ·rw[e];exact Aa _
   ·obtain ⟨v,s,A,E,G,K⟩:=ih z (by omega);by_cases q:l[n].At<=t
    ·refine ⟨l[n].bQ,l[n],(QZ (by omega)).2 (.inr rfl),q,λo i _=>?_,rfl⟩;rcases (QZ (show n<l.length by omega)).1 i with i | e
     ·obtain ⟨j,M,rfl⟩:=Pg.1 i;rw[km] at M;rw[He];exact hs.le (by omega) (by omega)
     ·rw[e];exact Aa _
    ·refine ⟨v,s,(QZ (by omega)).2 (.inl A),E,λo i u=>?_,K⟩;rcases (QZ (show n<l.length by omega)).1 i with i | e
     ·exact G o i u
     ·rw[e] at u;omega
 have:=this l.length hs.ne (cn _)
 rwa [uo] at this
theorem Wq{l:List bF}(a:l.length<=2000)(x:bF){k:Nat}(hk:k<=l.length):zaL 5000 l [x] (k:Int)=some (l.take k++[x]++l.drop k):=by
 unfold zaL zax;rw[iJ hk,aE,if_neg (by simp)];by_cases e:k=l.length
 ·subst e;rw[if_pos (by simp),Bw (by simp;omega),aE];simp[orE]
 ·rw[if_neg (by simp;omega)];unfold orE Hy;simp only;rw[if_pos ⟨by omega,by omega,by simp,by simp;omega⟩];simp
structure CutOk (l:List bF) (t:Int) (r:List bF):Prop where
 ok:dh r
 len:r.length<=l.length+1
 first:∀(h:0<l.length)(h':0<r.length),r[0].At=l[0].At
 val:∀u v,uN l u v->uN r u v
 iM:∃s∈r,s.At=t
 Rc:∀s∈l,s∈r
theorem jU{l:List bF}(O:l.length<=1000)(hs:dh l){t:Int}(P:(l[0]'hs.ne).At<=t)(Q:t<=281474976710656):bY (nV 5000 l t) (CutOk l t):=by
 unfold nV;refine (VV O hs t).bind λr R=>?_;obtain ⟨k,hk,rfl⟩:=R;have Y:=hk.pos hs P;have E:=hk.le;obtain ⟨m,rfl⟩:∃m,k=m+1:=⟨k-1,by omega⟩;have e:m<l.length:=by omega
 unfold zaO;rw[show ((m+1:Nat):Int)-1=(m:Int) by omega,Gt (by omega),aE,bN e,aE,aZ];refine ⟨λh=>?_,λh=>?_⟩
 ·simp only[lO] at h;exact aV.2 ⟨hs,by omega,λ_ _=>rfl,λu v h=>h,⟨_,bn e,h⟩,λs h=>h⟩
 ·simp only[lO] at h;have S:=hk.lo m e (by omega);have T:=hs.each _ (bn e);rw[aE,bJ (show m<1000000 by omega),Wq (by omega) _ E,aE,aV];generalize G:({ At:=t,bQ:=l[m].bQ }:bF)=x;have w:x.At=t:=by rw[<-G]
  have K:x.bQ=l[m].bQ:=by rw[<-G]
  have L:∀s∈l.take (m+1),s.At<t:=λs NY=>by obtain ⟨j,i,rfl⟩:=Pg.1 NY;rw[km] at i;rw[He];have:=hs.le (show j<=m by omega) e;omega
  have M:∀s∈l.drop (m+1),t<s.At:=λs NY=>by obtain ⟨j,i,rfl⟩:=Pg.1 NY;rw[VB] at i;rw[ZN];exact hk.hi _ (by omega) (by omega)
  have n:l=l.take (m+1)++l.drop (m+1):=(yBu ..).symm;have o:=hs.pw;rw[n] at o;obtain ⟨p1,U,Z⟩:=yB0.1 o;have mem:∀s,s∈l.take (m+1)++[x]++l.drop (m+1)↔s∈l∨s=x:=λs=>by
   constructor
   ·intro h;rcases mw.1 h with h | h
    ·rcases mw.1 h with h | h
     ·exact .inl (Kw h)
     ·exact .inr (nL.1 h)
    ·exact .inl (Zn h)
   ·rintro (h | rfl)
    ·rw[n] at h;rcases mw.1 h with h | h
     ·exact Ri _ (Ri _ h)
     ·exact Wy _ h
    ·exact Ri _ (Wy _ (nL.2 rfl))
  refine ⟨Xq (by simp;omega) (yB0.2 ⟨yB0.2 ⟨p1,by simp,λa g b y=>?_⟩,U,λa g b y=>?_⟩) λs h=>?_,?_,λh d=>?_,λu v W=>?_,⟨x,(mem x).2 (.inr rfl),w⟩,λs h=>(mem s).2 (.inl h)⟩
  ·rw[nL.1 y,w];exact L a g
  ·rcases mw.1 g with g | g
   ·have:=L a g;have:=M b y;omega
   ·rw[nL.1 g,w];exact M b y
  ·rcases (mem s).1 h with h | rfl
   ·exact hs.each s h
   ·rw[w,K];exact ⟨⟨by omega,Q⟩,T.2⟩
  ·simp only[Jw,km,VB,List.length_singleton];omega
  ·rw[yBw (by simp),yBw (by rw[km];omega),He]
  ·obtain ⟨s,z,N,A,rfl⟩:=W;by_cases q:t<=u
   ·have X:=A l[m] (bn e) (by omega);by_cases q2:s.At<t
    ·have:s=l[m]:=by
      obtain ⟨j,i,rfl⟩:=jj z;have:j<=m:=by
       rcases qG m j with h | h
       ·have:=hk.hi j i (by omega);omega
       ·exact h
      have:=hs.le this e;exact hs.inj z (bn e) (by omega)
     subst this;exact ⟨x,(mem x).2 (.inr rfl),by omega,λf d p=>by
      rcases (mem f).1 d with d | rfl
      ·have:=A f d p;omega
      ·omega,K⟩
    ·exact ⟨s,(mem s).2 (.inl z),N,λf d p=>by
      rcases (mem f).1 d with d | rfl
      ·exact A f d p
      ·omega,rfl⟩
   ·exact ⟨s,(mem s).2 (.inl z),N,λf d p=>by
     rcases (mem f).1 d with d | rfl
     ·exact A f d p
     ·omega,rfl⟩
theorem Sb:jp=nV:=rfl
def rL(out:List bF)(need:aA)(lo a:Nat):List bF:=out.mapIdx λj s=>if lo<=j/\j<a then { At:=s.At,bQ:=jF s.bQ need } else s
theorem KW{out:List bF}{need:aA}{lo a:Nat}:(rL out need lo a).length=out.length:=by simp[rL]
theorem iI{out:List bF}{need:aA}{lo a j:Nat}(h:j<(rL out need lo a).length):(rL out need lo a)[j]=if lo<=j/\j<a then { At:=(out[j]'(by rwa [KW] at h)).At,bQ:=jF (out[j]'(by rwa [KW] at h)).bQ need } else out[j]'(by rwa [KW] at h):=by simp only[rL,List.getElem_mapIdx]
theorem mb{out:List bF}{need:aA}{lo a j:Nat}(h:j<(rL out need lo a).length):(rL out need lo a)[j].At=(out[j]'(by rwa [KW] at h)).At:=by rw[iI];split <;> rfl
theorem Vz(out:List bF)(need:aA)(lo:Nat):rL out need lo lo=out:=List.ext_getElem KW λj a b=>by rw[iI,if_neg (by omega)]
theorem SQ{out:List bF}{need:aA}{lo i:Nat}(h:lo+i<out.length):(rL out need lo (lo+i)).set (lo+i) { At:=out[lo+i].At,bQ:=jF out[lo+i].bQ need }=rL out need lo (lo+(i+1)):=List.ext_getElem (by simp[KW]) λj a b=>by
 rw[List.getElem_set];split
 ·rename_i e;subst e;rw[iI,if_pos ⟨by omega,by omega⟩]
 ·rw[iI,iI];by_cases q:lo<=j/\j<lo+i
  ·rw[if_pos q,if_pos ⟨q.1,by omega⟩]
  ·rw[if_neg q,if_neg (by omega)]
def JA(a b:aA):Prop:=∀c,cmp c a<=cmp c b
theorem Zz{a b:aA}(d:aK a)(e:aK b)(h:JA b a):aK (jF a b):=zW.2 λc=>by have:=zW.1 d c;have:=zW.1 e c;have:=h c;rw[Gg];omega
structure ML (l:List bF) (a b:Int) (need:aA) (r:List bF):Prop where
 ok:dh r
 len:r.length<=l.length+2
 first:∀(h:0<l.length)(h':0<r.length),r[0].At=l[0].At
 val:∀t v,uN l t v->uN r t (if a<=t/\t<b then jF v need else v)
theorem uJ{l:List bF}(hl:l.length<=900)(hs:dh l){a b:Int}{need:aA}(hn:aK need)(h0:(l[0]'hs.ne).At<=a)(ab:a<b)(hb:b<=281474976710656)
  (y:∀t v,a<=t->t<b->uN l t v->JA need v):bY (kw 5000 l a b need) λr=>r.2=0/\ML l a b need r.1:=by
 unfold kw zdH;have A:=hs.ne;obtain ⟨rn,en,N⟩:=Rt need;have:=N.2 hn;subst this;simp only[il];rw[eC (by omega) hs,aE,if_neg (by simp),en,aE,if_neg (by simp)];rw[show (0:Int)=((0:Nat):Int) from rfl,bN A,aE,if_neg (by simp;omega),Sb];rw[nJ];refine (jU (by omega) hs h0 (by omega)).bind λo1 c1=>?_;have Y:=c1.ok.ne;have f1:=c1.first A Y;have l1:=c1.len;refine (jU (by omega) c1.ok (t:=b) (by omega) hb).bind λout g=>?_;have Z:=g.ok.ne;have f2:=g.first Y Z;have l2:=g.len;obtain ⟨sa,O,P⟩:=c1.iM;obtain ⟨d,n,Q⟩:=jj (g.Rc sa O);obtain ⟨sb,R,S⟩:=g.iM;obtain ⟨e,M,eb⟩:=jj R;have aa:out[d].At=a:=by rw[Q,P]
 have bb:out[e].At=b:=by rw[eb,S]
 have val:∀t v,uN l t v->uN out t v:=λt v h=>g.val t v (c1.val t v h);have E:∀j (h:j<out.length),a<=out[j].At->out[j].At<b->aK (jF out[j].bQ need):=λj h w p=>by obtain ⟨v,G⟩:=uN.ex hs (t:=out[j].At) (by omega);have:=(val _ _ G).t_ g.ok ⟨out[j],bn h,Aa _,λs' _ h=>h,rfl⟩;subst this;exact Zz (G.ok hs) hn (y _ _ w p G)
 refine (VV (by omega) g.ok a).bind λr u=>?_;obtain ⟨k,hk,rfl⟩:=u;have hp:=hk.pos g.ok (by omega);have ad:=hk.le;have hm:k=d+1:=by
  rcases Qc k (d+1) with h | h | h
  ·have:=hk.hi d n (by omega);omega
  ·exact h
  ·have:=hk.lo (k-1) (by omega) (by omega);have:=g.ok.lt (show d<k-1 by omega) (by omega);omega
 subst hm;have af:d<e:=by
  rcases Qc d e with h | h | h
  ·exact h
  ·subst h;omega
  ·have:=g.ok.lt h n;omega
 rw[show ((d+1:Nat):Int)-1=(d:Int) by omega];have mid:∀j (h:j<out.length),d<=j->j<e->a<=out[j].At/\out[j].At<b:=λj h w p=>by have:=g.ok.le w h;have:=g.ok.lt p M;omega
 refine jA (e-d) (λi x=>x=(((d+i:Nat):Int),rL out need d (d+i))) (λi x f hi T u=>?_) (λx f T=>?_) (by rw[Nat.add_zero,Vz]) (by omega)
 ·subst T;have m:d+i<out.length:=by omega
  obtain ⟨w,p⟩:=mid (d+i) m (by omega) (by omega);have K:(rL out need d (d+i))[d+i]'(by rw[KW];exact m)=out[d+i]:=by rw[iI,if_neg (by omega)]
  dsimp only;rw[bN (show d+i<(rL out need d (d+i)).length by rw[KW];exact m),aE,K,if_pos (by simpa using p),aE];refine (UL (g.ok.each _ (bn m)).2 hn).bind λr L=>?_;have z:=L.1.2 (E _ m w p);rw[if_neg (by simp[z]),aE,L.2 z,bJ (show d+i<1000000 by omega)];refine u _ ?_;rw[show ((d+i:Nat):Int).toNat=d+i by omega,SQ m];rfl
 ·subst T;rw[show d+(e-d)=e by omega];dsimp only;rw[bN (show e<(rL out need d e).length by rw[KW];exact M),aE,mb,if_neg (by simp;omega)];have so:dh (rL out need d e):=by
   refine ⟨by rw[KW];exact Z,λi h=>?_,λs h=>?_⟩
   ·rw[mb,mb];exact g.ok.inc i (by rwa [KW] at h)
   ·obtain ⟨j,m,rfl⟩:=jj h;have o:=m;rw[KW] at o;have ej:=g.ok.each _ (bn o);rw[mb];refine ⟨ej.1,?_⟩;rw[iI];split
    ·rename_i q;obtain ⟨w,p⟩:=mid j o q.1 q.2;exact E j o w p
    ·exact ej.2
  refine (HC (by rw[KW];omega) so).bind λr u=>?_;rw[aV,aV];have rl:=u.len;rw[KW] at rl;refine ⟨rfl,u.ok,by dsimp only;omega,λh U=>?_,λt v G=>u.val _ _ ?_⟩
  ·have:=u.first so.ne U;rw[mb] at this;dsimp only at this ⊢;omega
  ·obtain ⟨s,h1,h2,W,rfl⟩:=val t v G;obtain ⟨j,m,rfl⟩:=jj h1;have X:j<(rL out need d e).length:=by rw[KW];exact m
   refine ⟨(rL out need d e)[j],bn X,by rw[mb];exact h2,λs' U ht=>?_,?_⟩
   ·obtain ⟨i,hi,rfl⟩:=jj U;rw[mb] at ht ⊢;rw[mb];exact W _ (bn _) ht
   ·rw[iI];have ka:a<=t↔d<=j:=by
     constructor
     ·intro h;have:=W out[d] (bn n) (by omega);rcases qG j d with q | q
      ·have:=g.ok.lt q n;omega
      ·exact q
     ·intro h;have:=g.ok.le h m;omega
    have kb:t<b↔j<e:=by
     constructor
     ·intro h;rcases qG j e with q | q
      ·exact q
      ·have:=g.ok.le q m;omega
     ·intro h;rcases ZH t b with q | q
      ·exact q
      ·have:=W out[e] (bn M) (by omega);have:=g.ok.lt h M;omega
    simp only[ka,kb];split <;> rfl
end Go.Plain
end
section
namespace Go.Plain
open Go.Abs
theorem Mc{α:Type}(z:α){n:Nat}(h:n<=1000000):FU z (n:Int) (n:Int)=some (List.replicate n z):=by unfold FU;rw[if_pos ⟨by omega,by omega,by omega⟩];simp
theorem QD(v:aA)(need:aA):jF v (mulR 0 need)=v:=eH λc=>by rw[Gg,Kq];omega
theorem PK(v a b:aA):jF (jF v a) b=jF v (yr a b):=eH λc=>by simp only[Gg,wG];omega
theorem ML.none{l:List bF}(hs:dh l)(a b:Int)(need:aA):ML l a b (mulR 0 need) l:=
 ⟨hs,by omega,λ_ _=>rfl,λt v h=>by rw[QD,ite_self];exact h⟩
structure zJ (nodes:List (List bF)) (now:Int) (L:Nat):Prop where
 each:∀k (h:k<nodes.length),dh nodes[k]/\nodes[k].length<=L
 first:∀k (h:k<nodes.length) (h':0<nodes[k].length),nodes[k][0].At=now
theorem uZ{l:List dq}{n:Int}(h:bM l n){i:Nat}(e:i<l.length):dw (l.take i) l[i].Node=0:=by
 have:∀k,k<=i->dw (l.take k) l[i].Node=0:=by
  intro k;induction k with
  |zero=>intro _;simp[dw]
  |succ k ih=>
   intro hk;rw[iR (show k<l.length by omega),ih (by omega),if_neg,xAg];have:∀m,k<m->∀(d:m<l.length),l[k].Node<l[m].Node:=by
    intro m;induction m with
    |zero=>intro h;omega
    |succ m a=>
     intro b d;have s:=(h (m+1) d).up;rw[xp (show m<l.length by omega)] at s;rcases Dx (Kv.1 b) with q | q
     ·have:=a q (by omega);omega
     ·subst q;exact s
   have:=this i (by omega) e;omega
 exact this i (cn _)
theorem Jv{d:List (List bF)}{A:Int}{L:Nat}(hL:L<=900)(X:zJ d A L)(hn:d.length<=40){a b:Int}{l:List dq}{need:aA}(o:bM l d.length)(ad:l.length<=300)(hv:aK need)
  (h0:A<=a) (E:a<b) (u:b<=281474976710656) (G:∀k (h:k<d.length) t v,a<=t->t<b->uN d[k] t v->JA (mulR (dw l k) need) v) :
  bY (zb5 5000 d a b l need) λr=>r.2=0/\r.1.length=d.length/\∀k (h:k<d.length) (P:k<r.1.length),ML d[k] a b (mulR (dw l k) need) r.1[k]:=by
 unfold zb5;rw[Mc _ (by omega),aE];have node:∀i (g:i<l.length),∃k:Nat,l[i].Node=(k:Int)/\k<d.length:=λi g=>by obtain ⟨w,Q,_⟩:=o.mem _ (bn g);exact ⟨l[i].Node.toNat,by omega,by omega⟩
 refine jA l.length (λi x=>∃T:List (List bF),x=((i:Int),T)/\T.length=l.length/\∀j (R:j<l.length) (Y:j<T.length) (k:Nat) (hk:k<d.length),j<i->l[j].Node=(k:Int)->ML d[k] a b (mulR l[j].aJ need) T[j]) (λi x f g n Z=>?_) (λx f n=>?_)
  ⟨_,rfl,List.length_replicate ..,λj _ _ _ _ h=>by omega⟩ (by omega)
 ·obtain ⟨T,rfl,Y,hA⟩:=n;obtain ⟨k,p,hk⟩:=node i g;have sh:=o.mem _ (bn g);dsimp only;rw[if_pos (cD g),bN g,aE];have aa:dw l k=l[i].aJ:=by
   have w:=ME (l:=l.drop (i+1)) (λx n=>by have:=o.mem x (Zn n);omega) 0 k;have e:=zR (l:=l.take (i+1)) (m:=l.drop (i+1)) k;rw[yBu,iR g,<-p,uZ o g,if_pos rfl] at e;have z:dw (l.drop (i+1)) l[i].Node=0:=by
    have:∀x∈l.drop (i+1),x.Node≠l[i].Node:=λx n=>by
     obtain ⟨j,R,rfl⟩:=Pg.1 n;rw[VB] at R;rw[ZN];have u:=uZ o (show i+1+j<l.length by omega);intro e2;have S:=zR (l:=(l.take (i+1+j)).take i) (m:=(l.take (i+1+j)).drop i) l[i+1+j].Node;rw[yBu,u] at S;have n1:=oR (l:=(l.take (i+1+j)).take i) (λx n=>by have:=o.mem x (Kw (Kw n));omega) l[i+1+j].Node;have h4:=oR (l:=((l.take (i+1+j)).drop i)) (λx n=>by have:=o.mem x (Kw (Zn n));omega) l[i+1+j].Node;have h5:(l.take (i+1+j)).drop i=l[i]::(l.take (i+1+j)).drop (i+1):=by rw[yB4 (by rw[km];omega),He]
     rw[h5] at S h4;have h6:=oR (l:=((l.take (i+1+j)).drop (i+1))) (λx n=>by have:=o.mem x (Kw (Zn n));omega) l[i+1+j].Node;have h7:=zR (l:=[l[i]]) (m:=(l.take (i+1+j)).drop (i+1)) l[i+1+j].Node;have h8:dw [l[i]] l[i+1+j].Node=l[i].aJ:=by simp[dw,e2]
     rw[List.singleton_append] at h7;omega
    clear e w;generalize l.drop (i+1)=m at this;induction m with
    |nil=>simp[dw]
    |cons y m ih=>have w:=this y (iz ..);have Q:=ih λx n=>this x (h_ _ n);simp only[dw,iH,List.sum_cons] at Q ⊢;rw[if_neg w,Q];rfl
   rw[<-p];omega
  have fk:=G k hk;rw[aa] at fk;obtain ⟨U,lk⟩:=X.each k hk;have f0:=X.first k hk U.ne;have mv:aK (mulR l[i].aJ need):=by obtain ⟨v,K⟩:=uN.ex U (t:=a) (by omega);have:=fk a v (Aa _) E K;refine zW.2 λc=>?_;have w:=this c;have Q:=zW.1 (K.ok U) c;have S:=zW.1 hv c;rw[Kq] at w ⊢;have:=yBL (show 0<=l[i].aJ by omega) S.1;omega
  refine (HI hv ⟨sh.2.2.1,sh.2.2.2⟩).bind λr N=>?_;have z:=N.1.2 mv;rw[if_neg (by simp[z]),N.2 z,p,bN hk,aE];refine (uJ (by omega) U mv (by omega) E u fk).bind λr2 O=>?_;rw[bN (show i<T.length by omega),aE,if_neg (by simp[O.1]),bJ (show i<1000000 by omega),Xd];refine Z _ ⟨_,rfl,by simp[Y],λj R af s ab ak e=>?_⟩;rw[List.getElem_set];split
  ·rename_i q;subst q;obtain rfl:s=k:=by omega
   exact O.2
  ·exact hA j R (by omega) s ab (by omega) e
 ·obtain ⟨T,rfl,Y,hA⟩:=n;dsimp only;rw[if_neg (by simp)];refine jA l.length (λi x=>∃M:List (List bF),x=((i:Int),M)/\M.length=d.length/\∀k (h:k<d.length) (P:k<M.length),ML d[k] a b (mulR (dw (l.take i) k) need) M[k]/\(dw (l.take i) k=0->M[k]=d[k])) (λi x f g n Z=>?_) (λx f n=>?_)
   ⟨_,rfl,rfl,λk h _=>⟨by simpa[dw] using ML.none (X.each k h).1 a b need,λ_=>rfl⟩⟩ (by omega)
  ·obtain ⟨M,rfl,hM,W⟩:=n;obtain ⟨k,p,hk⟩:=node i g;dsimp only;rw[if_pos (cD g),bN g,aE,bN (show i<T.length by omega),aE,p,bN (show k<M.length by omega),aE,bJ (show i<1000000 by omega),Xd];refine Z _ ⟨_,rfl,by simp[hM],λs h P=>?_⟩;have u:=uZ o g;rw[p] at u;by_cases q:k=s
   ·subst q;have e1:(M.set k T[i])[k]=T[i]:=yBG _;rw[iR g,u,if_pos p,Int.zero_add,e1];have sh:=o.mem _ (bn g);exact ⟨hA i g (by omega) _ hk g p,λh=>by omega⟩
   ·have e1:(M.set k T[i])[s]=M[s]'(by omega):=yBK q _;rw[iR g,if_neg (by omega),xAg,e1];exact W s h (by omega)
  ·obtain ⟨M,rfl,hM,W⟩:=n;dsimp only;rw[if_neg (by simp),aV];rw[uo] at W;exact ⟨rfl,hM,λk h P=>(W k h P).1⟩
end Go.Plain
end
section
namespace Go.Plain
open Go.Abs
def mV(F:List aA)(n:Int):aA:=(F[n.toNat]?).getD bL
def vq(F:List aA)(l:List Int)(need:aA):Int:=(l.map λn=>dr (mV F n) need).sum
def Qq(left c:Int):Int:=if left<c then left else c
def Mr(F:List aA)(need:aA)(x:Int×List dq)(n:Int):Int×List dq:=
 if Qq x.1 (dr (mV F n) need)=0 then x else (x.1-Qq x.1 (dr (mV F n) need),x.2++[{ Node:=n,aJ:=Qq x.1 (dr (mV F n) need) }])
def wi(F:List aA)(need:aA)(l:List Int)(many:Int):Int×List dq:=l.foldl (Mr F need) (many,[])
def dj(F:List aA)(l:List Int)(many:Int)(need:aA):List dq×Bool:=if many<1∨vq F l need<many then ([],false) else ((wi F need l many).2,true)
theorem vy{F:List aA}{n:Int}(b:0<=n)(h:n<F.length):∃a:n.toNat<F.length,aB F n=some (mV F n)/\mV F n=F[n.toNat]'a:=by
 obtain ⟨a,e⟩:=ff b h;have:mV F n=F[n.toNat]:=by unfold mV;rw[cT a,OE]
 exact ⟨a,by rw[e,this],this⟩
structure vC (F:List aA) (l:List Int):Prop where
 Hm:l.length<=300
 node:∀n∈l,0<=n/\n<F.length
 ZE:∀n∈l,aK (mV F n)
section
variable{F:List aA}{l:List Int}{need:aA}(hP:vC F l)(hn:aK need)(hz:need≠bL)
include hP hn
theorem pg{n:Int}(h:n∈l):0<=dr (mV F n) need/\dr (mV F n) need<=64:=LS (hP.ZE n h) hn
theorem VD:0<=vq F l need/\vq F l need<=64 * l.length:=by
 have:∀(m:List Int),(∀x∈m,x∈l)->0<=vq F m need/\vq F m need<=64 * m.length:=by
  intro m;induction m with
  |nil=>intro _;simp[vq]
  |cons x m ih=>intro h;have a:=ih λy b=>h y (h_ _ b);have:=pg hP hn (h x (iz ..));simp only[vq,iH,List.sum_cons,List.length_cons] at a ⊢;omega
 exact this l λx h=>h
include hz
theorem Td{n:Int}(h:n∈l):nZ 5000 F n need=some (dr (mV F n) need):=by have a:=hP.node n h;obtain ⟨_,e,_⟩:=vy a.1 a.2;unfold nZ;rw[if_neg (by simp;omega),e,aE,count (hP.ZE n h) hn hz,aE]
theorem AR{i:Nat}(a:i<l.length):vq F (l.take (i+1)) need=vq F (l.take i) need+dr (mV F l[i]) need:=by rw[vU a];simp only[vq,Ic,iH,TI,yBS,List.sum_cons,List.sum_nil];omega
theorem Bi{i:Nat}:0<=vq F (l.take i) need/\vq F (l.take i) need<=64 * 300:=by have h:=VD (F:=F) (l:=l.take i) (need:=need) ⟨by rw[km];have:=hP.Hm;omega,λn h=>hP.node n (Kw h),λn h=>hP.ZE n (Kw h)⟩ hn;have:=hP.Hm;rw[km] at h;omega
theorem Tx:pc 5000 F l need=some (vq F l need):=by
 have g:=hP.Hm;unfold pc;refine bY.eq (jA l.length (λi x=>x=(vq F (l.take i) need,(i:Int))) (λi x f a d e=>?_) (λx f d=>?_) (by simp[vq]) (by omega))
 ·subst d;have c:=pg hP hn (bn a);have b:=Bi hP hn hz (i:=i);dsimp only;rw[if_pos (cD a),bN a,aE,Td hP hn hz (bn a),aE,bJ (show i<1000000 by omega),wr (by omega) (by omega)];exact e _ (by rw[AR hP hn hz a])
 ·subst d;dsimp only;rw[if_neg (by simp),aV,uo]
theorem Yi:zd0 5000 F l need=some (vq F l need):=by
 have j:=hP.Hm;unfold zd0;refine bY.eq (jA l.length (λi x=>x=(vq F (l.take i) need,(i:Int))) (λi x f a g h=>?_) (λx f g=>?_) (by simp[vq]) (by omega))
 ·subst g;have c:=pg hP hn (bn a);have b:=Bi hP hn hz (i:=i);have d:=hP.node _ (bn a);obtain ⟨_,e,_⟩:=vy d.1 d.2;simp only[il];rw[if_pos (cD a)];simp only[bN a,Option.bind_some];rw[if_pos (by simpa using d.1),if_pos (by simpa using d.2),e,aE,xS (hP.ZE _ (bn a)) hn hz,aE,bJ (show i<1000000 by omega),wr (by omega) (by omega)];exact h _ (by rw[AR hP hn hz a])
 ·subst g;dsimp only;rw[if_neg (by simp),aV,uo]
theorem xC{i:Nat}(a:i<l.length)(many:Int):wi F need (l.take (i+1)) many=Mr F need (wi F need (l.take i) many) l[i]:=by unfold wi;rw[vU a,xAn];rfl
theorem OA{many:Int}(hm:1<=many/\many<=100000)(i:Nat):(0<=(wi F need (l.take i) many).1/\(wi F need (l.take i) many).1<=many)/\(wi F need (l.take i) many).2.length<=i:=by
 induction i with
 |zero=>simp[wi];omega
 |succ i ih=>
  by_cases a:i<l.length
  ·have c:=pg hP hn (bn a);rw[xC hP hn hz a];unfold Mr;by_cases q:Qq (wi F need (l.take i) many).1 (dr (mV F l[i]) need)=0
   ·rw[if_pos q];exact ⟨ih.1,by omega⟩
   ·rw[if_neg q];dsimp only;rw[Jw,xAk];unfold Qq;split <;> omega
  ·rw[Yd (by omega)];rw[Yd (by omega)] at ih;exact ⟨ih.1,by omega⟩
theorem Kh{many:Int}(i:Nat)(h:(wi F need (l.take i) many).1=0):(wi F need l many).2=(wi F need (l.take i) many).2:=by
 have:∀n,wi F need (l.take (i+n)) many=wi F need (l.take i) many:=by
  intro n;induction n with
  |zero=>rfl
  |succ n ih=>
   by_cases a:i+n<l.length
   ·have c:=pg hP hn (bn a);rw[<-Nat.add_assoc,xC hP hn hz a,ih];unfold Mr Qq;rw[h,if_pos];split <;> omega
   ·rw[Yd (by omega)];rw[Yd (by omega)] at ih;exact ih
 have:=this l.length;rw[Yd (by omega)] at this;rw[this]
theorem Vq{many:Int}(hm:many<=100000):zd2 5000 F l many need=some (dj F l many need):=by
 have m:=hP.Hm;unfold zd2 dj;simp only[il];by_cases b:many<1
 ·rw[if_pos (by simpa using b),if_pos (by simp),if_pos (.inl b)]
 rw[if_neg (by simpa using b),Tx hP hn hz,aE];by_cases d:vq F l need<many
 ·rw[if_pos (by simpa using d),if_pos (.inr d)]
 rw[if_neg (by simpa using d),if_neg (by omega)];refine bY.eq (jA l.length (λi x=>x=((wi F need (l.take i) many).1,(i:Int),(wi F need (l.take i) many).2)) (λi x f a g j=>?_) (λx f g=>?_) (by simp[wi]) (by omega))
 ·subst g;have c:=pg hP hn (bn a);have k:=OA hP hn hz (many:=many) ⟨by omega,hm⟩ i;have st:=xC hP hn hz a many;dsimp only;rw[if_pos (cD a),bN a,aE,Td hP hn hz (bn a),aE,aZ];refine ⟨λh=>?_,λh=>?_⟩
  ·rw[aV,Kh hP hn hz i (by simpa using h)]
  ·rw[bJ (show i<1000000 by omega)];unfold Mr at st;rw[aZ];refine ⟨λh=>?_,λh=>?_⟩
   ·rw[if_pos (show Qq _ _=0 by simpa[Qq] using h)] at st;exact j _ (by rw[st])
   ·rw[if_neg (show ¬Qq _ _=0 by simpa[Qq] using h)] at st;rw[Bw (by simp;omega),aE];have e:IntKind.i64.wrap ((wi F need (l.take i) many).1-(if (wi F need (l.take i) many).1<dr (mV F l[i]) need then (wi F need (l.take i) many).1 else dr (mV F l[i]) need))=(wi F need (l.take i) many).1-Qq (wi F need (l.take i) many).1 (dr (mV F l[i]) need):=by
     unfold Qq;split <;> rw[wr (by omega) (by omega)]
    rw[e];exact j _ (by rw[st];rfl)
 ·subst g;dsimp only;rw[if_neg (by simp),aV,uo]
theorem SK{many:Int}(hm:many<=100000):zbL 5000 F l many need=some (dj F l many need):=by
 have p:=hP.Hm;unfold zbL dj;simp only[il];by_cases g:many<1
 ·rw[if_pos (by simpa using g),if_pos (by simp),if_pos (.inl g)]
 rw[if_neg (by simpa using g),Yi hP hn hz,aE];by_cases j:vq F l need<many
 ·rw[if_pos (by simpa using j),if_pos (.inr j)]
 rw[if_neg (by simpa using j),if_neg (by omega)];refine bY.eq (jA l.length (λi x=>x=((wi F need (l.take i) many).1,(i:Int),(wi F need (l.take i) many).2)) (λi x f a k m=>?_) (λx f k=>?_) (by simp[wi]) (by omega))
 ·subst k;have c:=pg hP hn (bn a);have o:=OA hP hn hz (many:=many) ⟨by omega,hm⟩ i;have st:=xC hP hn hz a many;have d:=hP.node _ (bn a);obtain ⟨_,e,_⟩:=vy d.1 d.2;dsimp only;rw[aZ];refine ⟨λh=>?_,λh=>?_⟩
  ·simp only[bp,aQ] at h;rw[bN a,aE,if_neg (by simpa using d.1),aE,if_neg (by simpa using d.2),aE,e,aE,xS (hP.ZE _ (bn a)) hn hz,aE,bJ (show i<1000000 by omega)];unfold Mr Qq at st;rw[aZ];refine ⟨λb=>?_,λb=>?_⟩
   ·simp only[aQ] at b;rw[if_pos (show (wi F need (l.take i) many).1<dr (mV F l[i]) need from b),if_neg (by omega)] at st;rw[if_pos (by simpa using h.2),aE,Bw (by simp;omega),aE,wr (x:=_-_) (by omega) (by omega)];exact m _ (by rw[st])
   ·simp only[aQ] at b;rw[if_neg (show ¬(wi F need (l.take i) many).1<dr (mV F l[i]) need from b)] at st;rw[wr (x:=_-_) (by omega) (by omega)];by_cases n:dr (mV F l[i]) need=0
    ·rw[if_pos n] at st;rw[if_neg (by simp;omega),n];exact m _ (by rw[st,Int.sub_zero])
    ·rw[if_neg n] at st;rw[if_pos (by simp;omega),aE,Bw (by simp;omega),aE];exact m _ (by rw[st])
  ·rw[aV,Kh hP hn hz i];simp only[bp,aQ,not_and] at h;have:=h (by omega);omega
 ·subst k;dsimp only;rw[if_neg (by simp),aV,uo]
end
theorem GD{F G:List aA}{l:List Int}(h:∀n∈l,mV F n=mV G n)(many:Int)(need:aA):dj F l many need=dj G l many need:=by
 have b:vq F l need=vq G l need:=by unfold vq;congr 1;exact List.map_congr_left λn hn=>by rw[h n hn]
 have d:∀(m:List Int)(x:Int×List dq),(∀n∈m,n∈l)->m.foldl (Mr F need) x=m.foldl (Mr G need) x:=by
  intro m;induction m with
  |nil=>intro x _;rfl
  |cons n m ih=>
   intro x a;have:Mr F need x n=Mr G need x n:=by unfold Mr;rw[h n (a n (iz ..))]
   rw[xAd,xAd,this];exact ih _ λy e=>a y (h_ _ e)
 unfold dj wi;rw[b,d l _ λn hn=>hn]
theorem Qh{a b need:aA}(k:aK a)(m:aK b)(hn:aK need)(h:JA a b):dr a need<=dr b need:=by
 have f:=vW k hn;have n:=vW m hn;rcases ZH (dr b need) (dr a need) with q | q
 ·obtain ⟨p,g,d⟩:=n.max (by have:=f.hi;omega);have e:∀(x y:Int×Int),x.2=y.2->x.1<=y.1->0<=y.2->x∈Ji a need->y.1<(dr b need+1) * y.2->False:=λx y o t r s d=>by
   have:=f.fit x s;have u:(dr b need+1) * y.2<=dr a need * y.2:=yBa (by omega) r;rw[o] at this;omega
  have f0:=h 0;have f1:=h 1;have i:=h 2;have j:=h 3;simp only[cmp] at f0 f1 i j;have:=hn.Ex;have:=hn.mem;have:=hn.Hd;have:=hn.IC;simp only[Ji,eU,Hj,Hg] at g;rcases g with rfl | rfl | rfl | rfl
  ·exact (e (a.br,need.br) (b.br,need.br) rfl f0 (by dsimp only;omega) (by simp[Ji]) d).elim
  ·exact (e (a.Mem,need.Mem) (b.Mem,need.Mem) rfl f1 (by dsimp only;omega) (by simp[Ji]) d).elim
  ·exact (e (a.bx,need.bx) (b.bx,need.bx) rfl i (by dsimp only;omega) (by simp[Ji]) d).elim
  ·exact (e (a.bD,need.bD) (b.bD,need.bD) rfl j (by dsimp only;omega) (by simp[Ji]) d).elim
 ·exact q
theorem KV{F G:List aA}{l:List Int}{need:aA}(d:vC F l)(e:vC G l)(hn:aK need)(h:∀n∈l,JA (mV F n) (mV G n)):vq F l need<=vq G l need:=by
 have:∀(m:List Int),(∀x∈m,x∈l)->vq F m need<=vq G m need:=by
  intro m;induction m with
  |nil=>intro _;simp[vq]
  |cons x m ih=>intro b;have f:=ih λy g=>b y (h_ _ g);have a:=b x (iz ..);have:=Qh (d.ZE x a) (e.ZE x a) hn (h x a);simp only[vq,iH,List.sum_cons] at f ⊢;omega
 exact this l λx h=>h
theorem yp{F:List aA}{l:List Int}{many:Int}{need:aA}:(dj F l many need).2=true↔1<=many/\many<=vq F l need:=by
 unfold dj;split
 ·simp;omega
 ·simp;omega
end Go.Plain
end
section
namespace Go.Plain
open Go.Abs
def pX(j:a_):Bool:=(j.State == 3) || (j.State == 4)
theorem Zt{j:a_}(h:pX j=true):j.State<5:=by simp only[pX,dZ,lO] at h;omega
structure vf (s:bq) (st:cM) (j:a_) (a:cN):Prop where
 GZ:a.bC=j.Id
 need:a.az=j.az
 Bv:Fa s j a.ah
 now:st.bz<j.Start+j.bm
def qZ(F:List aA)(a:cN):List aA:=F.mapIdx (wX a)
theorem ib{F:List aA}{a:cN}:(qZ F a).length=F.length:=by simp[qZ]
theorem sW{F:List aA}{a:cN}{i:Nat}(h:i<(qZ F a).length):(qZ F a)[i]=wX a i (F[i]'(by rwa [ib] at h)):=by simp[qZ]
theorem Bx.eq{F G:List aA}{a:cN}(h:Bx F a G):G=qZ F a:=
 List.ext_getElem (by rw[h.len,ib]) λi j o=>by rw[h.iM i j,sW o]
theorem qX{F:List aA}{a:cN}(h:yW F a):∀r∈qZ F a,aK r:=λr b=>by obtain ⟨i,d,rfl⟩:=jj b;rw[sW d];exact h i _
def dO(s:bq)(st:cM):List a_->List cN->List aA->Prop
 |[],A,_=>A=[]
 |j::H,A,F=>∃a b,A=a::b/\vf s st j a/\yW F a/\dO s st H b (qZ F a)
def fP(s:bq)(st:cM):Prop:=dO s st (st.aw.filter pX) st.ai s.aq
theorem dO.mem{s:bq}{st:cM}{H:List a_}{A:List cN}{F:List aA}(h:dO s st H A F):∀a∈A,∃j∈H,vf s st j a:=by
 induction H generalizing A F with
 |nil=>intro a i;rw[show A=[] from h] at i;cases i
 |cons j H ih=>
  obtain ⟨b,z,rfl,o,E,u⟩:=h;intro a i;rcases eU.1 i with rfl | i
  ·exact ⟨j,iz ..,o⟩
  ·obtain ⟨k,hk,x⟩:=ih u a i;exact ⟨k,h_ _ hk,x⟩
theorem fP.mem{s:bq}{st:cM}(h:fP s st):∀a∈st.ai,∃j∈st.aw,vf s st j a:=λa i=>by obtain ⟨j,o,u⟩:=dO.mem h a i;exact ⟨j,(Hk.1 o).1,u⟩
theorem Pb{α:Type}{M:List (Int×α)}{k:Int}{a:α}{b:Int}:cY (lV M k a) b=if k=b then some a else cY M b:=by
 induction M with
 |nil=>simp[lV,cY]
 |cons p M ih=>
  obtain ⟨q,v⟩:=p;simp only[lV];split
  ·rename_i e;subst e;simp only[cY];split <;> rfl
  ·rename_i e;simp only[cY,ih];split
   ·rename_i d;rw[if_neg (by intro f;exact e (by rw[d,f]))]
   ·rfl
theorem tq{s:bq}(hs:oV s)(k:bS s):Nv 5000 s=some true:=by obtain ⟨r,e,h⟩:=vT s hs;rw[e,h.2 k]
theorem Ej{l:List aA}(h:l.length<=1000000):zaS 5000 l=some l:=by simp only[zaS,Gt h]
theorem As{s:bq}(hs:oV s)(k:bS s):zcn 5000 s=some (.inr ([],s.aq)):=by have:=hs.nodes;simp only[zcn,tq hs k,Option.bind_some,Fj,bA,bT,Ej (show s.aq.length<=1000000 by omega)]
theorem NK{l:List dq}(h:1<=pP l):l≠[]:=λe=>by subst e;simp[pP] at h
structure AInv (s:bq) (st:cM) (i:Nat) (x:(List cN)×Int×(List aA)×List (Int×cN)):Prop where
 ix:x.2.1=(i:Int)
 iff:fP s st↔dO s st ((st.aw.drop i).filter pX) x.1 x.2.2.1
 len:x.2.2.1.length=s.aq.length
 ZE:∀r∈x.2.2.1,aK r
 keys:∀q,cY x.2.2.2 q≠none->∃m,∃h:m<st.aw.length,m<i/\st.aw[m].Id=q
 sub:∀a∈x.1,a∈st.ai
 Hm:x.1.length<=300
theorem BU{s:bq}(k:bS s){st:cM}(K:lF s st)(J:cU s st):fB (zdV 5000 s st) (fP s st):=by
 have hl:=K.cC;have hn:=K.spec.nodes;unfold zdV;rw[As K.spec k,aE];dsimp only;refine jA st.aw.length (AInv s st) (λi x f L Z hr=>?_) (λx f Z=>?_) ⟨rfl,by simp[fP],rfl,k.nodes.ok,λq h=>absurd rfl h,λa ha=>ha,K.cu⟩ (by omega)
 ·obtain ⟨u,x1,F,M⟩:=x;obtain ⟨w,d,j,p,g,n,t⟩:=Z;dsimp only at w d j p g n t;subst w;rw[yB4 L] at d;have ji:=J.each _ (bn L);have Q:=ji.ok;have up:∀q,(∃m,∃h:m<st.aw.length,m<i/\st.aw[m].Id=q)->∃m,∃h:m<st.aw.length,m<i+1/\st.aw[m].Id=q:=λq ⟨m,h,R,y⟩=>⟨m,h,by omega,y⟩;simp only[il,kZ,cD L,if_true,bN L,Option.bind_some,bJ (show i<1000000 by omega)];rw[aZ];refine ⟨λh=>hr _ ⟨rfl,?_,j,p,λq hq=>up q (g q hq),n,t⟩,λh=>?_⟩
  ·have e:pX st.aw[i]=false:=by simpa[pX] using h
   rw[d,List.filter_cons_of_neg (by simp[e])]
  ·have e:pX st.aw[i]=true:=by simpa only[pX,eS,lN] using h
   rw[List.filter_cons_of_pos e] at d;have ad:=Q.start;have af:=Q.wall;rw[wr (x:=st.aw[i].Start+st.aw[i].bm) (by omega) (by omega),aZ];refine ⟨λR=>cw λq=>?_,λR=>?_⟩
   ·obtain ⟨a,N,rfl,z,-⟩:=d.1 q;have:=z.now;simp only[dZ,aQ,lO,List.length_cons] at R;omega
   ·simp only[dZ,aQ,lO,not_or] at R;cases u with
    |nil=>simp at R
    |cons a N=>
     have ha:=n a (iz ..);have U:=K.shares a ha;have aa:aB (a::N) 0=some a:=by unfold aB;rw[if_pos ⟨by omega,by simp only[xAl];omega⟩];rfl
     have sl:slice? (a::N) 1 ((a::N).length:Int)=some N:=by unfold slice?;rw[if_pos ⟨by omega,by simp only[xAl];omega,by omega⟩];simp
     simp only[aa,sl,Option.bind_some];rw[aZ];refine ⟨λy=>?_,λy=>?_⟩
     ·refine cw λq=>?_;obtain ⟨a',A,E,z,-⟩:=d.1 q;cases E;have e1:=z.GZ;have e2:aA.beq a.az st.aw[i].az=true:=eI.2 z.need;rw[e2] at y;simp[e1] at y
     ·simp only[dZ,EE,ne_eq,not_or,Pt,eS,lN] at y;have eN:a.az=st.aw[i].az:=eI.1 y.2;refine (VF K.spec k st.aw[i] a.ah (jz U (by decide))).bind λr W=>?_;rw[aZ];refine ⟨λX=>?_,λX=>?_⟩
      ·refine cw λq=>?_;obtain ⟨a',A,E,z,-⟩:=d.1 q;cases E;have:=W.2 z.Bv;rw[this] at X;simp at X
      ·simp only[eS,lN] at X;have S:=W.1 X;have P:vf s st st.aw[i] a:=⟨y.1,eN,S,by omega⟩;have T:yW F a->Mj M F a:=λY=>⟨by have:=Q.id;omega,NK (by have:=Q.many;have:=S.tot;omega),by rw[j];exact S.shares,by rw[eN];exact Q.need,by
        cases hm:cY M a.bC with
        |none=>rfl
        |some v=>obtain ⟨m,ak,ab,an⟩:=g a.bC (by rw[hm];simp);have:=J.cA.lt ab L;omega,Y⟩
       refine (OG (M:=M) (a:=a) (F:=F) (by omega) (jz U (by decide)) p).bind λr2 G=>?_;rw[aZ];refine ⟨λO=>cw λq=>?_,λO=>?_⟩
       ·obtain ⟨a',A,E,z,Y,-⟩:=d.1 q;cases E;simp only[EE,ne_eq] at O;exact O (G.1.2 (T Y))
       ·simp only[EE,ne_eq,Pt] at O;have tk:=G.1.1 O;obtain ⟨eM,bh⟩:=G.2 O;have eF:=bh.eq;refine hr _ ⟨rfl,?_,?_,?_,λq hq=>?_,λb hb=>n b (h_ _ hb),?_⟩
        ·rw[d];dsimp only;rw[eF];constructor
         ·rintro ⟨a',A,E,z,Y,o⟩;cases E;exact o
         ·intro o;exact ⟨a,N,rfl,P,tk.fits,o⟩
        ·dsimp only;rw[eF,ib,j]
        ·dsimp only;rw[eF];exact qX tk.fits
        ·dsimp only at hq;rw[eM,Pb] at hq;split at hq
         ·rename_i e5;exact ⟨i,L,by omega,by rw[<-e5,y.1]⟩
         ·exact up q (g q hq)
        ·simp only[List.length_cons] at t;dsimp only;omega
 ·obtain ⟨u,x1,F,M⟩:=x;obtain ⟨w,d,j,p,g,n,t⟩:=Z;dsimp only at w d;subst w;rw[List.drop_length] at d;simp only[dX,bA,bT,aV,lO];rw[d];constructor
  ·intro h;exact PM (by omega)
  ·intro h;rw[show u=[] from h];rfl
end Go.Plain
end
section
namespace Go.Plain
open Go.Abs
structure OneB (n:Int) (b:lE):Prop where
 id:1<=b.Id/\b.Id<=281474976710656
 node:0<=b.Node/\b.Node<n
 lo:0<=b.bH
 span:b.bH<b.To
 hi:b.To<=1099511627776
structure sH (b:lE) (node p q:Int):Prop where
 node:b.Node=node
 span:b.bH<b.To
 pq:p<q
 l:b.bH<q
 r:p<b.To
structure Ky (l:List lE) (n:Int) (i:Nat) (b:lE):Prop where
 one:OneB n b
 up:∀x (h:x<l.length),x<i->l[x].Id<b.Id/\¬sH l[x] b.Node b.bH b.To
structure wg (l:List lE) (n:Int):Prop where
 len:l.length<=16
 each:∀i (h:i<l.length),Ky l n i l[i]
theorem Ap(l:List lE)(node p q:Int)(k:l.length<=300):fB (eX 5000 l node p q) (∃b∈l,sH b node p q):=by
 simp only[eX];refine um l (λ_ b=>¬sH b node p q) (λi f a _ d=>?_) (λf h=>?_) (by omega)
 ·simp only[cD a,if_true,bN a,Option.bind_some,bJ (show i<1000000 by omega),aZ];have e:decide ((if p > l[i].bH then p else l[i].bH)<(if q<l[i].To then q else l[i].To))=true↔l[i].bH<l[i].To/\p<q/\l[i].bH<q/\p<l[i].To:=by
   rw[aQ];split <;> split <;> omega
  rw[bp,e,lO];exact ⟨λh=>sE ⟨_,bn a,⟨h.1,h.2.1,h.2.2.1,h.2.2.2.1,h.2.2.2.2⟩⟩,λh=>d λm=>h ⟨m.node,m.span,m.pq,m.l,m.r⟩⟩
 ·simp only[dX,bA,bT];exact cw λ⟨b,g,j⟩=>BZ (A:=λb=>¬sH b node p q) h b g j
theorem ED(l:List lE)(node p q:Int)(j:l.length<=300):fB (zbP 5000 l node p q) (∃b∈l,sH b node p q):=by
 simp only[zbP];refine um l (λ_ b=>¬sH b node p q) (λi f a _ d=>?_) (λf h=>?_) (by omega)
 ·simp only[cD a,if_true,bN a,Option.bind_some,bJ (show i<1000000 by omega),aZ];simp only[bp,aQ,lO];exact ⟨λh=>sE ⟨_,bn a,⟨h.1.1.1.1,h.1.1.1.2,h.1.1.2,h.1.2,h.2⟩⟩,λh=>d λm=>h ⟨⟨⟨⟨m.node,m.span⟩,m.pq⟩,m.l⟩,m.r⟩⟩
 ·simp only[dX,bA,bT];exact cw λ⟨b,e,g⟩=>BZ (A:=λb=>¬sH b node p q) h b e g
theorem Tw(b:lE)(n:Int):fB (pj 5000 b n) (OneB n b):=by simp only[pj,fB,aV,bp,aQ];exact ⟨λh=>⟨by omega,by omega,by omega,by omega,by omega⟩,λh=>by have:=h.id;have:=h.node;have:=h.lo;have:=h.span;have:=h.hi;omega⟩
theorem Zk(b:lE)(n:Int):fB (zeq 5000 b n) (OneB n b):=by simp only[zeq,za9,Option.bind_some,fB,aZ,aV,bp,aQ];refine ⟨λa=>⟨λh=>⟨by omega,by omega,by omega,by omega,by omega⟩,λh=>by have:=h.id;have:=h.node;have:=h.lo;have:=h.span;have:=h.hi;omega⟩,λa=>⟨λh=>by simp at h,λh=>by have:=h.id;omega⟩⟩
theorem vS{α:Type}{l:List α}{i:Nat}(h:i<=l.length):slice? l 0 (i:Int)=some (l.take i):=by unfold slice?;rw[if_pos ⟨by omega,by omega,by omega⟩];simp
theorem Ua{l:List lE}{i:Nat}{P:lE->Prop}:(∃b∈l.take i,P b)↔∃x,∃h:x<l.length,x<i/\P l[x]:=by
 constructor
 ·rintro ⟨b,d,hp⟩;obtain ⟨x,a,rfl⟩:=jj d;rw[km] at a;rw[He] at hp;exact ⟨x,by omega,by omega,hp⟩
 ·rintro ⟨x,a,e,hp⟩;have f:x<(l.take i).length:=by rw[km];omega
  refine ⟨(l.take i)[x],bn f,?_⟩;rw[He];exact hp
theorem B_(l:List lE)(n:Int)(y:l.length<=300):fB (kE 5000 l n) (wg l n):=by
 unfold kE;rw[fB,aZ];refine ⟨λh=>cw λq=>?_,λh=>?_⟩
 ·have:=q.len;simp only[aQ] at h;omega
 ·simp only[aQ] at h;refine um l (λi b=>Ky l n i b) (λi f d p w=>?_) (λf p=>?_) (by omega)
  ·have hd:decide ((i:Int) > 0)=decide (0<i):=by simp
   simp only[il,cD d,if_true,bN d,Option.bind_some,bJ (show i<1000000 by omega),hd,vS (yBR d)];refine (Tw l[i] n).bind λr k=>?_;rw[aZ];refine ⟨λo=>cw λq=>?_,λo=>?_⟩
   ·have:=k.2 (q.each i d).one;rw[this] at o;simp at o
   ·simp only[eS,lN] at o;have O:=k.1 o;have fin:(∀x (h:x<l.length),x<i->l[x].Id<l[i].Id)->bY ((eX 5000 (l.take i) l[i].Node l[i].bH l[i].To).bind λr=>if r=true then some false else f ((i+1:Nat):Int)) (λb=>b=true↔wg l n):=λs=>by
     refine (Ap (l.take i) _ _ _ (by rw[km];omega)).bind λr e=>?_;rw[Ua] at e;rw[aZ];refine ⟨λg=>cw λq=>?_,λg=>w ⟨O,λx j a=>⟨s x j a,λm=>g (e.2 ⟨x,j,a,m⟩)⟩⟩⟩;obtain ⟨x,j,a,m⟩:=e.1 g;exact ((q.each i d).up x j a).2 m
    rw[aZ];refine ⟨λg=>?_,λg=>?_⟩
    ·simp only[aQ] at g;obtain ⟨m,rfl⟩:∃m,i=m+1:=⟨i-1,by omega⟩;have t:m<l.length:=by omega
     rw[wp1 (show m+1<1000000 by omega),bN t,aE,aZ];refine ⟨λu=>cw λq=>?_,λu=>fin λx j a=>?_⟩
     ·have:=((q.each (m+1) d).up m t (by omega)).1;simp only[aQ] at u;omega
     ·simp only[aQ] at u;rcases Dx (Kv.1 a) with v | v
      ·have:=((p m t (by omega)).up x j v).1;omega
      ·subst v;omega
    ·simp only[aQ] at g;exact fin λx j a=>by omega
  ·simp only[dX,bA,bT];exact sE ⟨by omega,λi d=>p i d⟩
theorem Qz{α:Type}{l:List α}{i:Nat}(h:i<l.length):slice? l (i:Int) ((i+1:Nat):Int)=some [l[i]]:=by unfold slice?;rw[if_pos ⟨by omega,by omega,by omega⟩];simp only[Int.toNat_natCast];rw[vU h,List.drop_append_of_le_length (by rw[km];omega),yB1 (by rw[km];omega)];rfl
theorem Uy(l:List lE)(n:Int)(K:l.length<=300):fB (zdt 5000 l n) (wg l n):=by
 unfold zdt;refine um l (λi b=>Ky l n i b) (λi f d A E=>?_) (λf A=>?_) (by omega)
 ·simp only[il,cD d,if_true,bN d,Option.bind_some,bJ (show i<1000000 by omega)];refine (Zk l[i] n).bind λr j=>?_;rw[aZ];refine ⟨λk=>cw λq=>?_,λk=>?_⟩
  ·have:=j.2 (q.each i d).one;rw[this] at k;simp at k
  ·simp only[eS,lN] at k;have O:=j.1 k;refine jA i (λx y=>y=(x:Int)/\∀z (h:z<l.length),z<x->l[z].Id<l[i].Id/\¬sH l[z] l[i].Node l[i].bH l[i].To) (λx y g p s G=>?_) (λy g s=>?_) ⟨rfl,λz h o=>by omega⟩ (by omega)
   ·obtain ⟨rfl,t⟩:=s;have a:x<l.length:=by omega
    simp only[cD p,if_true,bN a,Option.bind_some,bJ (show x<1000000 by omega)];rw[aZ];refine ⟨λu=>cw λq=>?_,λu=>?_⟩
    ·have:=((q.each i d).up x a p).1;simp only[aQ] at u;omega
    ·simp only[aQ] at u;rw[Qz a,aE];refine (ED [l[x]] _ _ _ (by simp)).bind λr e=>?_;simp only[nL,exists_eq_left] at e;rw[aZ];refine ⟨λv=>cw λq=>((q.each i d).up x a p).2 (e.1 v),λv=>G _ ⟨rfl,λz hz w=>?_⟩⟩;rcases Dx (Kv.1 w) with o | o
     ·exact t z hz o
     ·subst o;exact ⟨by omega,λm=>v (e.2 m)⟩
   ·obtain ⟨rfl,t⟩:=s;simp only[dX,bA,bT];exact E ⟨O,t⟩
 ·simp only[dX,bA,bT,aV,aQ];exact ⟨λh=>⟨by omega,λi d=>A i d⟩,λq=>by have:=q.len;omega⟩
def Of(st:cM)(a:cN):Prop:=∀j∈st.aw,j.Id=a.bC->∀x∈a.ah,∀b∈st.ay,b.Node=x.Node->¬b.bH<j.Start+j.bm
structure AG (s:bq) (st:cM):Prop where
 dy:wg st.ay s.aq.length
 live:∀b∈st.ay,b.Id<st.kf/\st.bz<b.To
 DF:∀a∈st.ai,Of st a
theorem Iv{s:bq}{st:cM}(z:lF s st)(J:cU s st)(A:fP s st):fB (gF 5000 s st) (AG s st):=by
 have k:=z.dy;have hj:=z.cC;have W:=z.cu;unfold gF;refine (B_ st.ay _ (by omega)).bind λr u=>?_;rw[aZ];refine ⟨λv=>cw λq=>?_,λv=>?_⟩
 ·have:=u.2 q.dy;rw[this] at v;simp at v
 ·simp only[eS,lN] at v;have B:=u.1 v;refine um st.ay (λi b=>b.Id<st.kf/\st.bz<b.To) (λi f n _ E=>?_) (λf S=>?_) (by omega)
  ·simp only[cD n,if_true,bN n,Option.bind_some,bJ (show i<1000000 by omega)];rw[aZ];simp only[dZ,aQ];exact ⟨λX=>cw λq=>by have:=q.live _ (bn n);omega,λX=>E (by omega)⟩
  ·simp only[dX,bA,bT];refine um st.ai (λi a=>Of st a) (λi f n _ E=>?_) (λf Y=>?_) (by omega)
   ·simp only[cD n,if_true,bN n,Option.bind_some,bJ (show i<1000000 by omega)];have G:=bn n;have Z:=z.shares _ G;obtain ⟨j,d,P⟩:=A.mem _ G;have o:=J.each j d;have aa:=o.ok.id;have ab:=o.ok.start;have jw:=o.ok.wall;refine (OC (by omega) J.cA (id:=st.ai[i].bC) (by have:=P.GZ;omega) J.ids).bind λr2 p=>?_;rw[p.1.2 ⟨j,d,P.GZ.symm⟩,if_neg (by simp)];have h:=p.2 (p.1.2 ⟨j,d,P.GZ.symm⟩);obtain ⟨K,ad⟩:=r2;dsimp only at h ⊢;obtain ⟨L,e⟩:=ff (l:=st.aw) h.lo (by have:=h.lo;have:=h.hi;omega);have ej:st.aw[K.toNat]=j:=by
     obtain ⟨m,t,rfl⟩:=jj d;have:=J.cA.inj L t (by rw[h.is,P.GZ]);subst this;rfl
    rw[ej] at e;rw[e];simp only[Option.bind_some];rw[wr (x:=j.Start+j.bm) (by omega) (by omega)];have pn:=P.now;refine um st.ai[i].ah (λ_ x=>∀b∈st.ay,b.Node=x.Node->¬b.bH<j.Start+j.bm) (λm g t _ hg=>?_) (λg hG=>?_) (by omega)
    ·simp only[cD t,if_true,bN t,Option.bind_some,bJ (show m<1000000 by omega)];refine (Ap st.ay _ _ _ (by omega)).bind λr3 w=>?_;rw[aZ];refine ⟨λM=>cw λq=>?_,λM=>hg λb k hn hf=>M (w.2 ⟨b,k,?_⟩)⟩
     ·obtain ⟨b,k,T⟩:=w.1 M;exact q.DF _ G j d P.GZ.symm _ (bn t) b k T.node T.l
     ·obtain ⟨y,U,rfl⟩:=jj k;have:=S y U;exact ⟨hn,(B.each y U).one.span,pn,hf,this.2⟩
    ·simp only[dX,bA,bT];refine E λN O Q x L b k=>?_;have:N=j:=by
      obtain ⟨m,t,rfl⟩:=jj d;obtain ⟨m',R,rfl⟩:=jj O;have:=J.cA.inj R t (by rw[Q,P.GZ]);subst this;rfl
     subst this;exact BZ (A:=λx=>∀b∈st.ay,b.Node=x.Node->¬b.bH<N.Start+N.bm) hG x L b k
   ·simp only[dX,bA,bT];exact sE ⟨B,BZ S,BZ Y⟩
structure Km (s:bq) (st:cM):Prop where
 spec:bS s
 nums:Lp s st
 cC:cU s st
 waits:∀j∈st.aw,HE s st j
 cu:fP s st
 oH:AG s st
 use:UI s st
theorem IS{s:bq}{st:cM}(a:lF s st):fB (l_ 5000 s st) (Km s st):=by
 unfold l_;have step:∀{o:Option Bool}{P:Prop}{k:Option Bool},fB o P->(Km s st->P)->(P->fB k (Km s st))->fB (o.bind λr=>if r=true then k else some false) (Km s st):=λe b f=>e.bind λr d=>aZ.2 ⟨λh=>f (d.1 h),λh=>cw λq=>h (d.2 (b q))⟩
 refine step (vT s a.spec) (λq=>q.spec) λk=>?_;refine step (Mp k st) (λq=>q.nums) λe=>?_;refine step (YN k a) (λq=>q.cC) λb=>?_;refine step (Md k a b) (λq=>q.waits) λf=>?_;refine step (BU k a b) (λq=>q.cu) λg=>?_;refine step (Iv a b g) (λq=>q.oH) λi=>?_;refine (UR a).bind λr d=>?_;rw[aV,d];exact ⟨λj=>⟨k,e,b,f,g,i,j⟩,λq=>q.use⟩
end Go.Plain
end
section
namespace Go.Plain
open Go.Abs
def dx(A:List cN)(i:Int)(c:Nat):Int:=(A.map λa=>dw a.ah i * cmp c a.az).sum
theorem pp{a:cN}{A:List cN}{i:Int}{c:Nat}:dx (a::A) i c=dw a.ah i * cmp c a.az+dx A i c:=by simp[dx]
theorem lJ{A:List cN}{k:Nat}(h:k<A.length)(i:Int)(c:Nat):dx (A.take (k+1)) i c=dx (A.take k) i c+dw A[k].ah i * cmp c A[k].az:=by rw[vU h];simp only[dx,Ic,iH,TI,yBS,List.sum_cons,List.sum_nil];omega
def AT(n:Int)(A:List cN):Prop:=∀a∈A,bM a.ah n/\aK a.az
theorem VP{n:Int}{a:cN}(h:bM a.ah n/\aK a.az)(i:Int)(c:Nat):0<=dw a.ah i * cmp c a.az/\dw a.ah i * cmp c a.az<=67108864:=
 jx (xy h.1 i) (zW.1 h.2 c)
theorem xc{n:Int}{A:List cN}(h:AT n A)(i:Int)(c:Nat):0<=dx A i c/\dx A i c<=67108864 * A.length:=by
 induction A with
 |nil=>simp[dx]
 |cons a A ih=>have e:=ih λb d=>h b (h_ _ d);have f:=VP (h a (iz ..)) i c;rw[pp,xAl];omega
def FX(F:List aA)(A:List cN):Prop:=∀i (h:i<F.length) c,dx A i c<=cmp c F[i]
theorem DH{a:aA}{n:Int}(b:aK a)(hn:0<=n/\n<=64):zcB 5000 a n=some (mulR n a):=by
 obtain ⟨m,rfl⟩:∃m:Nat,n=(m:Int):=⟨n.toNat,by omega⟩;unfold zcB;refine bY.eq (jA m (λk x=>x=((k:Int),(k:Int) * a.br,(k:Int) * a.Mem,(k:Int) * a.bx,(k:Int) * a.bD)) (λk x f hk d g=>?_) (λx f d=>?_) (by simp) (by omega))
 ·subst d;have h:=jx (n:=((k+1:Nat):Int)) (by omega) b.Ex;have i:=jx (n:=((k+1:Nat):Int)) (by omega) b.mem;have j:=jx (n:=((k+1:Nat):Int)) (by omega) b.Hd;have o:=jx (n:=((k+1:Nat):Int)) (by omega) b.IC;have e:∀x:Int,((k+1:Nat):Int) * x=(k:Int) * x+x:=λx=>by rw[Int.natCast_add,Int.add_mul];simp
  rw[e] at h i j o;simp only[cD hk,if_true,Uo,Option.bind_some,bJ (show k<1000000 by omega)];refine g _ ?_;rw[wr (x:=(k:Int) * a.br+a.br) (by omega) (by omega),wr (x:=(k:Int) * a.Mem+a.Mem) (by omega) (by omega),wr (x:=(k:Int) * a.bx+a.bx) (by omega) (by omega),wr (x:=(k:Int) * a.bD+a.bD) (by omega) (by omega),e,e,e,e]
 ·subst d;simp only[dX,bA,bT,aV];rfl
theorem Vb(a b:aA):fB (Mt 5000 a b) (∀c,cmp c a<=cmp c b):=by
 simp only[Mt,fB,aV,bp,aQ];constructor
 ·intro h c
  match c with
  |0=>exact h.1.1.1
  |1=>exact h.1.1.2
  |2=>exact h.1.2
  |_+3=>exact h.2
 ·intro h;exact ⟨⟨⟨h 0,h 1⟩,h 2⟩,h 3⟩
theorem Rw{F:List aA}{A:List cN}(hF:F.length<=300)(hA:A.length<=300)(hs:∀a∈A,a.ah.length<=300){n:Int}(h:AT n A):bY (zd7 5000 F A) λr=>r.2=true↔FX F A:=by
 unfold zd7;refine jA F.length (λi x=>(x.1=true↔∀m (h:m<F.length),m<i->∀c,dx A m c<=cmp c F[m])/\x.2.1=(i:Int)/\x.2.2.length=i) (λi x f b u M=>?_) (λx f u=>?_) ⟨⟨λ_ m h s=>by omega,λ_=>rfl⟩,rfl,rfl⟩ (by omega)
 ·obtain ⟨P,Q,v⟩:=x;obtain ⟨e,j,w⟩:=u;dsimp only at e j w;subst j;simp only[cD b,if_true];refine jA A.length (λk y=>y=((k:Int),dx (A.take k) i 0,dx (A.take k) i 1,dx (A.take k) i 2,dx (A.take k) i 3)) (λk y g hk E R=>?_) (λy g E=>?_) (by simp[dx]) (by omega)
  ·subst E;have G:=h _ (bn hk);have t:AT n (A.take (k+1)):=λa S=>h a (Kw S);have lk:((A.take (k+1)).length:Int)<=300:=by rw[km];omega
   have T:=xc t i 0;have U:=xc t i 1;have W:=xc t i 2;have X:=xc t i 3;rw[lJ hk] at T U W X;simp only[cD hk,if_true,bN hk,Option.bind_some,KJ (hs _ (bn hk)) G.1,DH G.2 (xy G.1 i),Uo,bJ (show k<1000000 by omega)];refine R _ ?_;rw[lJ hk,lJ hk,lJ hk,lJ hk];have Y:(mulR (dw A[k].ah i) A[k].az).br=dw A[k].ah i * cmp 0 A[k].az:=rfl;have Z:(mulR (dw A[k].ah i) A[k].az).Mem=dw A[k].ah i * cmp 1 A[k].az:=rfl;have e2:(mulR (dw A[k].ah i) A[k].az).bx=dw A[k].ah i * cmp 2 A[k].az:=rfl;have e3:(mulR (dw A[k].ah i) A[k].az).bD=dw A[k].ah i * cmp 3 A[k].az:=rfl;rw[Y,Z,e2,e3,wr (x:=_+dw A[k].ah i * cmp 0 A[k].az) (by omega) (by omega),wr (x:=_+dw A[k].ah i * cmp 1 A[k].az) (by omega) (by omega),wr (x:=_+dw A[k].ah i * cmp 2 A[k].az) (by omega) (by omega),wr (x:=_+dw A[k].ah i * cmp 3 A[k].az) (by omega) (by omega)]
  ·subst E;have ap:∀z:aA,cf v [z]=some (v++[z]):=λz=>Bw (by simp only[List.length_singleton];omega);simp only[dX,bA,bT,il,bN b,Option.bind_some,zco,ap,bJ (show i<1000000 by omega),uo];rw[aZ];refine ⟨λd=>?_,λd=>?_⟩
   ·refine (Vb _ _).bind λr K=>?_;refine M _ ⟨?_,rfl,by simp only[Jw,List.length_singleton];omega⟩;dsimp only;rw[K];have N:∀c,cmp c ({ br:=dx A i 0,Mem:=dx A i 1,bx:=dx A i 2,bD:=dx A i 3 }:aA)=dx A i (min c 3):=λc=>by
     match c with
     |0=>rfl
     |1=>rfl
     |2=>rfl
     |c+3=>rw[Nat.min_eq_right (by omega)];rfl
    have O:∀c,dx A i (min c 3)=dx A i c:=λc=>by
     match c with
     |0=>rfl
     |1=>rfl
     |2=>rfl
     |c+3=>rw[Nat.min_eq_right (by omega)];rfl
    constructor
    ·intro o m L p c;rcases Dx (Kv.1 p) with s | s
     ·exact e.1 d m L s c
     ·subst s;have:=o c
      rwa [N,O] at this
    ·intro o c;rw[N,O];exact o i b (by omega) c
   ·refine M _ ⟨?_,rfl,by simp only[Jw,List.length_singleton];omega⟩;dsimp only;simp only[bA,zj];intro o;exact d (e.2 λm L p=>o m L (by omega))
 ·obtain ⟨P,Q,v⟩:=x;obtain ⟨e,j,w⟩:=u;dsimp only at e j w;subst j;simp only[dX,bA,bT,aV];rw[e];exact ⟨λq i b c=>q i b b c,λq i b _ c=>q i b c⟩
structure MY (s:bq) (st:cM) (i:Nat) (a:cN):Prop where
 up:∀m (h:m<st.ai.length),m+1=i->st.ai[m].bC<a.bC
 GZ:∃j∈st.aw,j.Id=a.bC
 shares:bM a.ah s.aq.length
 need:aK a.az
structure Ug (s:bq) (st:cM):Prop where
 each:∀i (h:i<st.ai.length),MY s st i st.ai[i]
 fit:FX s.aq st.ai
theorem Ug.good{s:bq}{st:cM}(h:Ug s st):AT s.aq.length st.ai:=λa o=>by obtain ⟨i,j,rfl⟩:=jj o;exact ⟨(h.each i j).shares,(h.each i j).need⟩
theorem Ll{s:bq}{st:cM}(k:lF s st):fB (zc5 5000 s st) (Ug s st):=by
 have N:=k.cC;have v:=k.cu;have hn:=k.spec.nodes;unfold zc5;refine um st.ai (λi a=>MY s st i a) (λi f d u w=>?_) (λf u=>?_) (by omega)
 ·have hd:decide ((i:Int) > 0)=decide (0<i):=by simp
  have x:=k.shares _ (bn d);have fin:(∀m (h:m<st.ai.length),m+1=i->st.ai[m].bC<st.ai[i].bC)->bY ((Wd 5000 st.aw st.ai[i].bC).bind λr=>
    if decide (r<0)=true then some false else (zbm 5000 st.ai[i].ah (s.aq.length:Int)).bind λA=>
    if (!A)=true then some false else (VY 5000 st.ai[i].az).bind λn=>if (!n)=true then some false else f ((i+1:Nat):Int)) (λb=>b=true↔Ug s st):=λy=>by
   refine (wj (by omega) st.ai[i].bC).bind λr o=>?_;rw[aZ];refine ⟨λh=>cw λq=>?_,λh=>?_⟩
   ·have:=o.1.2 (q.each i d).GZ;simp only[aQ] at h;omega
   ·simp only[aQ] at h;refine (Ek _ _ (jz x (by decide))).bind λA p=>?_;rw[aZ];refine ⟨λh=>cw λq=>?_,λg=>?_⟩
    ·have:=p.2 (q.each i d).shares;rw[this] at h;simp at h
    ·simp only[eS,lN] at g;refine (wN _).bind λn t=>?_;rw[aZ];refine ⟨λh=>cw λq=>?_,λE=>?_⟩
     ·have:=t.2 (q.each i d).need;rw[this] at h;simp at h
     ·simp only[eS,lN] at E;exact w ⟨y,o.1.1 (by omega),p.1 g,t.1 E⟩
  simp only[il,cD d,if_true,bN d,Option.bind_some,bJ (show i<1000000 by omega),hd];rw[aZ];refine ⟨λh=>?_,λh=>?_⟩
  ·simp only[aQ] at h;obtain ⟨m,rfl⟩:∃m,i=m+1:=⟨i-1,by omega⟩;rw[wp1 (show m+1<1000000 by omega),bN (show m<st.ai.length by omega),aE,aZ];refine ⟨λg=>cw λq=>?_,λg=>fin λL M e=>?_⟩
   ·have:=(q.each (m+1) d).up m (by omega) rfl;simp only[aQ] at g;omega
   ·simp only[aQ] at g;have:L=m:=by omega
    subst this;omega
  ·simp only[aQ] at h;exact fin λm O e=>by omega
 ·simp only[dX,bA,bT];have G:AT s.aq.length st.ai:=λa z=>by
   obtain ⟨j,K,rfl⟩:=jj z;exact ⟨(u j K).shares,(u j K).need⟩
  refine (Rw (by omega) v (λa z=>jz (k.shares a z) (by decide)) G).bind λr w=>?_;rw[aV,w];exact ⟨λh=>⟨λi d=>u i d,h⟩,λh=>h.fit⟩
theorem Lo{l:List Int}(h:∀i (h:i+1<l.length),l[i]<l[i+1]):l.Pairwise (·<·):=by
 rw[We];intro i j f d a;induction j with
 |zero=>omega
 |succ j ih=>
  have e:=h j d;rcases Dx (Kv.1 a) with b | b
  ·have:=ih (by omega) b;omega
  ·subst b;exact e
theorem asc_eq{l m:List Int}(b:l.Pairwise (·<·))(hm:m.Pairwise (·<·))(h:∀x,x∈l↔x∈m):l=m:=by
 induction l generalizing m with
 |nil=>
  cases m with
  |nil=>rfl
  |cons y m=>exact absurd ((h y).2 (iz ..)) (by simp)
 |cons x l ih=>
  cases m with
  |nil=>exact absurd ((h x).1 (iz ..)) (by simp)
  |cons y m=>
   rw[List.pairwise_cons] at b hm;have e:x=y:=by
    rcases eU.1 ((h x).1 (iz ..)) with e | a
    ·exact e
    ·rcases eU.1 ((h y).2 (iz ..)) with e | d
     ·exact e.symm
     ·have:=b.1 y d;have:=hm.1 x a;omega
   subst e;congr 1;refine ih b.2 hm.2 λz=>⟨λhz=>?_,λhz=>?_⟩
   ·rcases eU.1 ((h z).1 (h_ _ hz)) with e | a
    ·have:=b.1 z hz;omega
    ·exact a
   ·rcases eU.1 ((h z).2 (h_ _ hz)) with e | a
    ·have:=hm.1 z hz;omega
    ·exact a
theorem yS{s:bq}{st:cM}{H:List a_}{A:List cN}{F:List aA}(h:dO s st H A F)(d:∀r∈F,aK r):A.map (·.bC)=H.map (·.Id)/\FX F A:=by
 induction H generalizing A F with
 |nil=>rw[show A=[] from h];exact ⟨rfl,λi b c=>by simp only[dx,TI,List.sum_nil];exact (zW.1 (d _ (bn b)) c).1⟩
 |cons j H ih=>obtain ⟨a,n,rfl,e,f,g⟩:=h;obtain ⟨k,m⟩:=ih g (qX f);refine ⟨by rw[iH,iH,k,e.GZ],λi b c=>?_⟩;have:=m i (by rw[ib];exact b) c;rw[sW,wX,Gg,Kq] at this;rw[pp];omega
theorem Jj{s:bq}{st:cM}{n:Int}{H:List a_}{A:List cN}{F:List aA}(d:A.map (·.bC)=H.map (·.Id))(v:∀r∈F,aK r)(o:∀a∈A,∀j∈H,a.bC=j.Id->vf s st j a)(p:AT n A)(t:FX F A):dO s st H A F:=by
 induction H generalizing A F with
 |nil=>
  cases A with
  |nil=>rfl
  |cons a A=>cases d
 |cons j H ih=>
  cases A with
  |nil=>cases d
  |cons a A=>
   rw[iH,iH] at d;have f:a.bC=j.Id:=by injection d
   have g:A.map (·.bC)=H.map (·.Id):=by injection d
   have w:=p a (iz ..);have u:AT n A:=λb h=>p b (h_ _ h);have fa:yW F a:=λi e=>zW.2 λc=>by have m:=t i e c;have x:=VP w i c;have y:=xc u i c;have z:=zW.1 (v _ (bn e)) c;rw[pp] at m;rw[wX,Gg,Kq];omega
   refine ⟨a,A,rfl,o a (iz ..) j (iz ..) f,fa,ih g (qX fa) (λb h k hk=>o b (h_ _ h) k (h_ _ hk)) u λi e c=>?_⟩;have m:=t i (by rwa [ib] at e) c;rw[sW,wX,Gg,Kq];rw[pp] at m;omega
theorem Gm{s:bq}{st:cM}(J:cU s st):((st.aw.filter pX).map (·.Id)).Pairwise (·<·):=by
 have h:(st.aw.map (·.Id)).Pairwise (·<·):=Lo λi a=>by rw[GB,GB];exact J.cA i (by simpa using a)
 rw[List.pairwise_map] at h ⊢;exact h.filter _
structure Vf (s:bq) (st:cM) (j:a_):Prop where
 has:(∃a∈st.ai,a.bC=j.Id)↔pX j=true
 XT:∀a∈st.ai,a.bC=j.Id->vf s st j a
theorem VI{s:bq}{st:cM}(k:bS s)(J:cU s st)(A:fP s st):Ug s st/\∀j∈st.aw,Vf s st j:=by
 obtain ⟨h,u⟩:=yS A k.nodes.ok;have pw:=Gm J;rw[<-h] at pw;have t_:∀j∈st.aw,∀f∈st.aw,j.Id=f.Id->j=f:=λj d f b e=>by obtain ⟨m,n,rfl⟩:=jj d;obtain ⟨x,o,rfl⟩:=jj b;have:=J.cA.inj n o e;subst this;rfl
 refine ⟨⟨λi t=>?_,u⟩,λj d=>⟨⟨λ⟨a,g,e⟩=>?_,λv=>?_⟩,λa g e=>?_⟩⟩
 ·obtain ⟨j,d,P⟩:=A.mem _ (bn t);refine ⟨λm n e=>?_,⟨j,d,P.GZ.symm⟩,P.Bv.shares,by rw[P.need];exact (J.each j d).ok.need⟩;have:=We.1 pw m i (by simpa using n) (by simpa using t) (by omega);simpa using this
 ·have:a.bC∈st.ai.map (·.bC):=dY.2 ⟨a,g,rfl⟩;rw[h] at this;obtain ⟨f,b,w⟩:=dY.1 this;obtain ⟨p,r⟩:=Hk.1 b;have:f=j:=t_ _ p _ d (by rw[w,e]);subst this;exact r
 ·have:j.Id∈(st.aw.filter pX).map (·.Id):=dY.2 ⟨j,Hk.2 ⟨d,v⟩,rfl⟩;rw[<-h] at this;obtain ⟨a,g,e⟩:=dY.1 this;exact ⟨a,g,e⟩
 ·obtain ⟨f,b,P⟩:=A.mem a g;have:f=j:=t_ _ b _ d (by rw[<-P.GZ,e]);subst this;exact P
theorem of_ref{s:bq}{st:cM}(k:bS s)(J:cU s st)(R:Ug s st)(h:∀j∈st.aw,Vf s st j):fP s st:=by
 have pw:(st.ai.map (·.bC)).Pairwise (·<·):=Lo λi f=>by rw[GB,GB];exact (R.each (i+1) (by simpa using f)).up i (by simp at f;omega) rfl
 refine Jj (n:=s.aq.length) (asc_eq pw (Gm J) λx=>⟨λg=>?_,λg=>?_⟩) k.nodes.ok (λa d j b e=>(h j (Hk.1 b).1).XT a d e) R.good R.fit
 ·obtain ⟨a,d,rfl⟩:=dY.1 g;obtain ⟨i,f,rfl⟩:=jj d;obtain ⟨j,b,e⟩:=(R.each i f).GZ;exact dY.2 ⟨j,Hk.2 ⟨b,(h j b).has.1 ⟨_,d,e.symm⟩⟩,e⟩
 ·obtain ⟨j,b,rfl⟩:=dY.1 g;obtain ⟨a,d,e⟩:=(h j (Hk.1 b).1).has.2 (Hk.1 b).2;exact dY.2 ⟨a,d,e⟩
end Go.Plain
end
section
namespace Go.Plain
open Go.Abs
structure Cb (u:Ci) (n:Int):Prop where
 shares:bM u.ah n
 Hm:u.ah.length<=300
 need:aK u.az
 lo:0<=u.bH
 hi:u.To<=281474976710656
def mn(u:Ci)(k t:Int):aA:=if u.bH<=t/\t<u.To then mulR (dw u.ah k) u.az else bL
def aW(L:List Ci)(k t:Int):aA:=L.foldl (λr u=>yr r (mn u k t)) bL
theorem uT(L:List Ci)(u:Ci)(k t:Int):aW (L++[u]) k t=yr (aW L k t) (mn u k t):=by simp[aW]
def dg(B:List lE)(k t:Int):Prop:=∃b∈B,b.Node=k/\b.bH<=t/\t<b.To
open Classical in
noncomputable def bP(q:kj)(k t:Int):aA:=if dg q.ay k t then bL else jF (mV q.S.aq k) (aW q.L k t)
structure yH (q:kj):Prop where
 spec:bS q.S
 now:0<=q.bz/\q.bz<=1099511627776
 dy:wg q.ay q.S.aq.length
 used:∀u∈q.L,Cb u q.S.aq.length
 Hm:q.L.length<=100
theorem pf_add{a b:aA}(d:∀c,0<=cmp c a/\cmp c a<=1099511627776)(e:∀c,0<=cmp c b/\cmp c b<=1099511627776):Uo 5000 a b=some (yr a b):=by unfold Uo yr;have f:=e 0;have g:=e 1;have h:=e 2;have i:=e 3;have j:=d 0;have k:=d 1;have m:=d 2;have n:=d 3;simp only[cmp] at f g h i j k m n;rw[wr (by omega) (by omega),wr (by omega) (by omega),wr (by omega) (by omega),wr (by omega) (by omega)]
theorem pf_sub{a b:aA}(d:∀c,0<=cmp c a/\cmp c a<=1099511627776)(e:∀c,0<=cmp c b/\cmp c b<=1099511627776):zco 5000 a b=some (jF a b):=by unfold zco jF;have f:=e 0;have g:=e 1;have h:=e 2;have i:=e 3;have j:=d 0;have k:=d 1;have m:=d 2;have n:=d 3;simp only[cmp] at f g h i j k m n;rw[wr (by omega) (by omega),wr (by omega) (by omega),wr (by omega) (by omega),wr (by omega) (by omega)]
theorem OK(a b:aA):∃r,Mt 5000 a b=some r:=⟨_,rfl⟩
theorem LZ{u:Ci}{n:Int}(h:Cb u n)(k t:Int)(c:Nat):0<=cmp c (mn u k t)/\cmp c (mn u k t)<=67108864:=by
 unfold mn;split
 ·rw[Kq];exact jx (xy h.shares k) (zW.1 h.need c)
 ·rw[Nl];omega
theorem Ey(a:aA):yr a bL=a:=eH λc=>by rw[wG,Nl];omega
theorem Ee{L:List Ci}{n:Int}(h:∀u∈L,Cb u n)(k t:Int)(c:Nat)(i:Nat):0<=cmp c (aW (L.take i) k t)/\cmp c (aW (L.take i) k t)<=67108864 * i:=by
 induction i with
 |zero=>simp[aW,Nl]
 |succ i ih=>
  by_cases a:i<L.length
  ·rw[vU a,uT,wG];have:=LZ (h _ (bn a)) k t c;omega
  ·rw[Yd (by omega)];rw[Yd (by omega)] at ih;omega
section
variable{q:kj}(hq:yH q)
include hq
theorem RA(k t:Int):zbA 5000 q k t=some (aW q.L k t):=by
 have p:=hq.Hm;unfold zbA;refine bY.eq (jA q.L.length (λi x=>x=((i:Int),(aW (q.L.take i) k t).br,(aW (q.L.take i) k t).Mem,(aW (q.L.take i) k t).bx,(aW (q.L.take i) k t).bD)) (λi x f a d g=>?_) (λx f d=>?_) (by simp[aW,bL]) (by omega))
 ·subst d;have u:=hq.used _ (bn a);have m:=Ee hq.used k t;simp only[il];rw[if_pos (cD a),bN a,aE,bJ (show i<1000000 by omega)];have st:aW (q.L.take (i+1)) k t=yr (aW (q.L.take i) k t) (mn q.L[i] k t):=by rw[vU a,uT]
  by_cases h:q.L[i].bH<=t/\t<q.L[i].To
  ·rw[if_pos (by simp;exact h),KJ u.Hm u.shares,aE,DH u.need (xy u.shares k),aE];have b:mn q.L[i] k t=mulR (dw q.L[i].ah k) q.L[i].az:=by unfold mn;rw[if_pos h]
   have j:=LZ u k t;rw[b] at j;have e:Uo 5000 ({ br:=(aW (q.L.take i) k t).br,Mem:=(aW (q.L.take i) k t).Mem,bx:=(aW (q.L.take i) k t).bx,bD:=(aW (q.L.take i) k t).bD }:aA) (mulR (dw q.L[i].ah k) q.L[i].az)=some (yr (aW (q.L.take i) k t) (mulR (dw q.L[i].ah k) q.L[i].az)):=
    pf_add (λc=>by have:=m c i;show 0<=cmp c (aW (q.L.take i) k t)/\cmp c (aW (q.L.take i) k t)<=_;omega) (λc=>by have:=j c;omega)
   rw[e,aE];exact g _ (by rw[st,b])
  ·rw[if_neg (by simp;intro n;by_cases o:t<q.L[i].To;exact absurd ⟨n,o⟩ h;omega)];have b:mn q.L[i] k t=bL:=by unfold mn;rw[if_neg h]
   exact g _ (by rw[st,b,Ey])
 ·subst d;dsimp only;rw[if_neg (by simp),aV,uo]
theorem UN(k:Int){t:Int}(g:0<=t):fB (zbP 5000 q.ay k t (IntKind.i64.wrap (t+1))) (dg q.ay k t):=by
 have j:=hq.dy.len;refine (ED q.ay k t _ (by omega)).mono λr h=>h.trans ?_;constructor
 ·rintro ⟨b,a,m⟩;obtain ⟨i,d,rfl⟩:=jj a;have o:=(hq.dy.each i d).one;refine ⟨_,a,m.node,?_,m.r⟩;have e:=m.l;have n:=m.pq;have p:=m.r;have:=o.hi;rw[wr (by omega) (by omega)] at e;omega
 ·rintro ⟨b,a,m1,s,f⟩;obtain ⟨i,d,rfl⟩:=jj a;have o:=(hq.dy.each i d).one;have:=o.hi;have:=o.lo;exact ⟨_,a,m1,by omega,by rw[wr (by omega) (by omega)];omega,by rw[wr (by omega) (by omega)];omega,f⟩
theorem ER{k:Nat}(hk:k<q.S.aq.length){t:Int}(b:0<=t):bY (zaG 5000 q k t) λr=>r.1=bP q k t:=by
 unfold zaG;rw[RA hq,aE];refine (UN hq k b).bind λr a=>?_;unfold bP;by_cases h:dg q.ay k t
 ·rw[if_pos h,if_pos (a.2 h)];obtain ⟨x,e⟩:=OK (aW q.L k t) { br:=0,Mem:=0,bx:=0,bD:=0 };rw[e,aE,aV];rfl
 ·rw[if_neg h,if_neg λe=>h (a.1 e),bN hk,aE];have n:=hq.spec.nodes.ok _ (bn hk);have d:=Ee hq.used k t;have f:=hq.Hm;rw[pf_sub (λc=>by have:=zW.1 n c;omega) (λc=>by have:=d c q.L.length;rw[uo] at this;omega),aE,aE];obtain ⟨x,e⟩:=OK (aW q.L k t) q.S.aq[k];rw[e,aE,aV];have:mV q.S.aq k=q.S.aq[k]:=by unfold mV;rw[Xd,cT hk,OE]
  rw[this]
end
def OI(q:kj)(x:Int):Prop:=x=q.bz∨(∃u∈q.L,x=u.bH∨x=u.To)∨∃b∈q.ay,x=b.bH∨x=b.To
structure wk (q:kj) (T:List Int):Prop where
 cA:T.Pairwise λa b=>a<b
 mem:∀x,x∈T↔q.bz<=x/\OI q x
 len:T.length<=300
structure zV (l:List Int) (now:Int) (T:List Int):Prop where
 cA:T.Pairwise λa b=>a<b
 mem:∀x,x∈T↔now<=x/\x∈l
 len:T.length<=l.length
theorem SV(l:List Int)(U:l.length<=300)(g:Int):bY (zbT 5000 l g) (zV l g):=by
 unfold zbT;refine jA l.length (λi x=>x.2=(i:Int)/\zV (l.take i) g x.1) (λi x f w k t=>?_) (λx f k=>?_) ⟨rfl,by simp,by simp,by simp⟩ (by omega)
 ·obtain ⟨T,y⟩:=x;obtain ⟨rfl,d⟩:=k;dsimp only at d ⊢;have N:=d.len;rw[km] at N;rw[if_pos (cD w),il];have z:l.take (i+1)=l.take i++[l[i]]:=vU w;have O:(l.take (i+1)).length=(l.take i).length+1:=by rw[z];simp only[Jw,List.length_singleton]
  have same:zV (l.take i) g T->(l[i]<g∨l[i]∈T)->zV (l.take (i+1)) g T:=λh e=>⟨h.cA,λx=>by
   rw[z,mw,nL,h.mem];constructor
   ·rintro ⟨a,b⟩;exact ⟨a,.inl b⟩
   ·rintro ⟨a,b | b⟩
    ·exact ⟨a,b⟩
    ·subst b;rcases e with e | e
     ·omega
     ·exact (h.mem _).1 e,by have:=h.len;omega⟩
  refine jA T.length (λj x=>x=(j:Int)/\∀m (n:m<T.length),m<j->T[m]<l[i]) (λj x P p k G=>?_) (λx P k=>?_) ⟨rfl,λm _ h=>by omega⟩ (by omega)
  ·obtain ⟨rfl,A⟩:=k;rw[il,if_pos (cD p),bN p,aE,bN w,aE,aZ];refine ⟨λh=>?_,λh=>?_⟩
   ·simp only[aQ] at h;rw[bJ (show j<1000000 by omega)];refine G _ ⟨rfl,λm n K=>?_⟩;rcases Dx (Kv.1 K) with L | L
    ·exact A m n L
    ·subst L;exact h
   ·simp only[aQ] at h;rw[il,aE,aZ];refine ⟨λe=>?_,λe=>?_⟩
    ·simp only[aQ] at e;dsimp only;rw[if_pos rfl,bJ (show i<1000000 by omega)];exact t _ ⟨rfl,same d (.inl e)⟩
    ·simp only[aQ] at e;rw[if_pos (cD p),aE,aE,aZ];refine ⟨λE=>?_,λE=>?_⟩
     ·simp only[lO] at E;rw[bJ (show i<1000000 by omega)];exact t _ ⟨rfl,same d (.inr (E▸bn _))⟩
     ·simp only[lO] at E;rw[vS (yBR p),aE,Gt (by rw[km];omega),aE,aE,Bw (by simp;omega),aE,iJ (yBR p),aE,Bw (by simp;omega),aE,bJ (show i<1000000 by omega)];have u:T=T.take j++T.drop j:=(yBu ..).symm;have v:=d.cA;rw[u] at v;obtain ⟨p1,Q,R⟩:=yB0.1 v;have S:∀x∈T.drop j,l[i]<x:=λx k=>by
       obtain ⟨m,n,rfl⟩:=Pg.1 k;rw[VB] at n;rw[ZN];rcases yCg m with rfl | W
       ·have:T[j]=T[j+0]:=by congr 1
        omega
       ·have:=We.1 d.cA j (j+m) p (by omega) (by omega);omega
      have M:∀x∈T.take j,x<l[i]:=λx k=>by obtain ⟨m,n,rfl⟩:=Pg.1 k;rw[km] at n;rw[He];exact A m (by omega) (by omega)
      refine t _ ⟨rfl,yB0.2 ⟨yB0.2 ⟨p1,by simp,λa o b r=>by rw[nL.1 r];exact M a o⟩,Q,λa o b r=>?_⟩,λx=>?_,?_⟩
      ·rcases mw.1 o with o | o
       ·exact R a o b r
       ·rw[nL.1 o];exact S b r
      ·rw[z,mw (s:=l.take i),nL];have:=d.mem x;rw[u,mw] at this;rw[mw,mw,nL];constructor
       ·rintro ((a | a) | a)
        ·have:=this.1 (.inl a);exact ⟨this.1,.inl this.2⟩
        ·subst a;exact ⟨by omega,.inr rfl⟩
        ·have:=this.1 (.inr a);exact ⟨this.1,.inl this.2⟩
       ·rintro ⟨a,b | b⟩
        ·rcases this.2 ⟨a,b⟩ with h | h
         ·exact .inl (.inl h)
         ·exact .inr h
        ·exact .inl (.inr b)
      ·have:=d.len;simp only[Jw,km,VB,List.length_singleton] at this ⊢;omega
  ·obtain ⟨rfl,A⟩:=k;rw[il,if_neg (by simp)];dsimp only;rw[if_neg (by simp),il,bN w,aE,aZ];refine ⟨λe=>?_,λe=>?_⟩
   ·simp only[aQ] at e;dsimp only;rw[if_pos rfl,bJ (show i<1000000 by omega)];exact t _ ⟨rfl,same d (.inl e)⟩
   ·simp only[aQ] at e;rw[if_neg (by simp)];dsimp only;rw[if_neg (by simp)];rw[vS (cn _),aE,Gt (by rw[km];omega),aE,aE,Bw (by simp;omega),aE,iJ (cn _),aE,Bw (by simp;omega),aE,bJ (show i<1000000 by omega)];rw[uo,List.drop_length,Kp];refine t _ ⟨rfl,yB0.2 ⟨d.cA,by simp,λa o b r=>?_⟩,λx=>?_,by simp;have:=d.len;omega⟩
    ·rw[nL.1 r];obtain ⟨m,n,rfl⟩:=jj o;exact A m n n
    ·rw[z,mw,nL,mw,nL,d.mem];constructor
     ·rintro (⟨a,b⟩ | a)
      ·exact ⟨a,.inl b⟩
      ·subst a;exact ⟨by omega,.inr rfl⟩
     ·rintro ⟨a,b | b⟩
      ·exact .inl ⟨a,b⟩
      ·exact .inr b
 ·obtain ⟨T,y⟩:=x;obtain ⟨rfl,d⟩:=k;dsimp only at d ⊢;rw[if_neg (by simp),aV]
  rwa [uo] at d
theorem Ig{q:kj}(hq:yH q):bY (za6 5000 q) (wk q):=by
 have p:=hq.Hm;have r:=hq.dy.len;unfold za6;refine jA q.L.length (λi x=>x.1=(i:Int)/\x.2.length=1+2 * i/\∀y,y∈x.2↔y=q.bz∨∃u∈q.L.take i,y=u.bH∨y=u.To) (λi x f d e k=>?_) (λx f e=>?_) ⟨rfl,rfl,λy=>by simp⟩ (by omega)
 ·obtain ⟨y,T⟩:=x;obtain ⟨rfl,j,b⟩:=e;dsimp only at j b ⊢;rw[if_pos (cD d)];simp only[bN d,Option.bind_some];rw[Bw (by simp;omega),aE,Bw (by simp;omega),aE,bJ (show i<1000000 by omega)];refine k _ ⟨rfl,by simp;omega,λy=>?_⟩;rw[vU d];simp only[mw,nL,b];constructor
  ·rintro (((h | ⟨u,h1,a⟩) | h) | h)
   ·exact .inl h
   ·exact .inr ⟨u,.inl h1,a⟩
   ·exact .inr ⟨_,.inr rfl,.inl h⟩
   ·exact .inr ⟨_,.inr rfl,.inr h⟩
  ·rintro (h | ⟨u,h1 | rfl,a⟩)
   ·exact .inl (.inl (.inl h))
   ·exact .inl (.inl (.inr ⟨u,h1,a⟩))
   ·rcases a with a | a
    ·exact .inl (.inr a)
    ·exact .inr a
 ·obtain ⟨y,o⟩:=x;obtain ⟨rfl,m,g⟩:=e;dsimp only at m g ⊢;rw[if_neg (by simp)];rw[uo] at g;refine jA q.ay.length (λi x=>x.1=(i:Int)/\x.2.length=o.length+2 * i/\∀y,y∈x.2↔y∈o∨∃u∈q.ay.take i,y=u.bH∨y=u.To) (λi x f d e k=>?_) (λx f e=>?_) ⟨rfl,rfl,λy=>by simp⟩ (by omega)
  ·obtain ⟨y,T⟩:=x;obtain ⟨rfl,j,b⟩:=e;dsimp only at j b ⊢;rw[if_pos (cD d)];simp only[bN d,Option.bind_some];rw[Bw (by simp;omega),aE,Bw (by simp;omega),aE,bJ (show i<1000000 by omega)];refine k _ ⟨rfl,by simp;omega,λy=>?_⟩;rw[vU d];simp only[mw,nL,b];constructor
   ·rintro (((h | ⟨u,h1,a⟩) | h) | h)
    ·exact .inl h
    ·exact .inr ⟨u,.inl h1,a⟩
    ·exact .inr ⟨_,.inr rfl,.inl h⟩
    ·exact .inr ⟨_,.inr rfl,.inr h⟩
   ·rintro (h | ⟨u,h1 | rfl,a⟩)
    ·exact .inl (.inl (.inl h))
    ·exact .inl (.inl (.inr ⟨u,h1,a⟩))
    ·rcases a with a | a
     ·exact .inl (.inr a)
     ·exact .inr a
  ·obtain ⟨y,T⟩:=x;obtain ⟨rfl,j,b⟩:=e;dsimp only at j b ⊢;rw[if_neg (by simp)];rw[uo] at b;refine (SV T (by omega) q.bz).bind λR n=>?_;rw[aV];refine ⟨n.cA,λx=>?_,by have:=n.len;omega⟩;rw[n.mem,b,g,or_assoc];rfl
end Go.Plain
end
section
namespace Go.Plain
open Go.Abs
theorem jn_ite{X R:Type}{r:X->Option R}{c:Prop}[Decidable c]{a b:X}:jn r (λj=>if c then j a else j b)=r (if c then a else b):=by unfold jn;split <;> rfl
theorem Nr{l:List dq}{n:Int}(h:bM l n){i:Int}:dw l i > 0↔∃x∈l,x.Node=i:=by
 have b:∀x∈l,1<=x.aJ:=λx a=>(h.mem x a).2.2.1;clear h;induction l with
 |nil=>simp[dw]
 |cons y l ih=>
  have d:=ih λx a=>b x (h_ _ a);have k:=b y (iz ..);have m:=oR (l:=l) (λx a=>by have:=b x (h_ _ a);omega) i;have e:dw (y::l) i=(if y.Node=i then y.aJ else 0)+dw l i:=by simp[dw]
  rw[e];constructor
  ·intro j;by_cases f:y.Node=i
   ·exact ⟨y,iz ..,f⟩
   ·rw[if_neg f] at j;obtain ⟨x,a,e⟩:=d.1 (by omega);exact ⟨x,h_ _ a,e⟩
  ·rintro ⟨x,a,g⟩;rcases eU.1 a with rfl | a
   ·rw[if_pos g];omega
   ·have:=d.2 ⟨x,a,g⟩;split <;> omega
def wb(st:cM)(node b:Int)(a:cN):Prop:=∃j∈st.aw,j.Id=a.bC/\(∃x∈a.ah,x.Node=node)/\b<j.Start+j.bm
theorem QR{s:bq}{st:cM}(y:lF s st)(R:Ug s st)(node d:Int):bY (zdw 5000 st node d) λb=>cU s st->(b=true↔∃a∈st.ai,wb st node d a):=by
 have T:=y.cC;have P:=y.cu;unfold zdw;refine um st.ai (λi a=>cU s st->¬wb st node d a) (λi f u M z=>?_) (λf M=>?_) (by omega)
 ·simp only[il,cD u,if_true,bN u,Option.bind_some,bJ (show i<1000000 by omega)];have v:=bn u;refine (wj (by omega) st.ai[i].bC).bind λr o=>?_;rw[aZ];refine ⟨λh=>?_,λh=>?_⟩
  ·simp only[aQ] at h;have k:=o.2.1 h;have S:=(R.each i u).shares;obtain ⟨N,e⟩:=ff (l:=st.aw) k.lo (by have:=k.lo;have:=k.hi;omega);have E:=bn N;have fin:bY (if decide (IntKind.i64.wrap (st.aw[r.toNat].Start+st.aw[r.toNat].bm) > d)=true then some true else f ((i+1:Nat):Int)) (λb=>(∃x∈st.ai[i].ah,x.Node=node)->cU s st->(b=true↔∃a∈st.ai,wb st node d a)):=by
    rw[aZ];refine ⟨λg=>?_,λg=>?_⟩
    ·rw[aV];intro G J;have p:=(J.each _ E).ok;have:=p.start;have:=p.wall;rw[wr (by omega) (by omega)] at g;simp only[aQ] at g;exact ⟨λ_=>⟨_,v,_,E,k.is,G,g⟩,λ_=>rfl⟩
    ·refine (z λJ K=>?_).mono λb L _=>L;obtain ⟨j,n,w,-,O⟩:=K;have:j=st.aw[r.toNat]:=by
      obtain ⟨m,Q,rfl⟩:=jj n;have:=J.cA.inj Q N (by rw[w,k.is]);subst this;rfl
     subst this;have p:=(J.each _ E).ok;have:=p.start;have:=p.wall;rw[wr (by omega) (by omega)] at g;simp only[aQ] at g;omega
   rw[KJ (jz (y.shares _ v) (by decide)) S,aE,e,aZ];simp only[Option.bind_some];refine ⟨λg=>?_,λg=>?_⟩
   ·simp only[aQ] at g;exact fin.mono λb L=>L ((Nr S).1 g)
   ·simp only[aQ] at g;rw[if_neg (by simp)];exact z λJ ⟨j,n,w,t,O⟩=>g ((Nr S).2 t)
  ·simp only[aQ] at h;rw[if_neg (by simp)];exact z λJ ⟨j,n,w,t,O⟩=>by have:=o.1.2 ⟨j,n,w⟩;omega
 ·simp only[dX,bA,bT,aV,zj];rintro J ⟨a,v,K⟩;exact BZ (A:=λa=>cU s st->¬wb st node d a) M a v J K
theorem PU{s:bq}{st:cM}(A:lF s st)(R:Ug s st):bY (zds 5000 s st) λb=>cU s st->(b=true↔AG s st):=by
 have E:=A.dy;unfold zds;refine um st.ay (λi b=>(b.Id<st.kf/\st.bz<b.To)/\(cU s st->¬∃a∈st.ai,wb st b.Node b.bH a)) (λi f k n o=>?_) (λf n=>?_) (by omega)
 ·simp only[il,cD k,if_true,bN k,Option.bind_some,bJ (show i<1000000 by omega)];have d:=bn k;rw[aZ];refine ⟨λh=>?_,λh=>?_⟩
  ·rw[aV];intro J;simp only[dZ,aQ] at h;simp only[bA,zj];exact λq=>by have:=q.live _ d;omega
  ·simp only[dZ,aQ] at h;refine (QR A R _ _).bind λr g=>?_;rw[aZ];refine ⟨λp=>?_,λp=>o ⟨by omega,λJ=>λq=>p ((g J).2 q)⟩⟩;rw[aV];intro J;simp only[bA,zj];intro q;obtain ⟨a,t,j,u,e,⟨x,v,w⟩,y⟩:=(g J).1 p;exact q.DF a t j u e x v _ d w.symm y
 ·simp only[dX,bA,bT];refine (Uy _ _ (by omega)).bind λr o=>?_;rw[aV];intro J;rw[o];refine ⟨λh=>⟨h,λb d=>?_,λa t j u e x v b d w y=>?_⟩,λq=>q.dy⟩
  ·obtain ⟨m,z,rfl⟩:=jj d;exact (n m z).1
  ·obtain ⟨m,z,rfl⟩:=jj d;exact (n m z).2 J ⟨a,t,j,u,e,⟨x,v,w.symm⟩,y⟩
structure AtA (l:List cN) (id:Int) (r:Int):Prop where
 lo:0<=r
 hi:r.toNat<l.length
 is:l[r.toNat].bC=id
theorem Qm{l:List cN}(g:l.length<=300)(id:Int):bY (zd5 5000 l id) λr=>(0<=r↔∃a∈l,a.bC=id)/\(0<=r->AtA l id r):=by
 unfold zd5;refine um l (λ_ j=>j.bC≠id) (λi f h _ b=>?_) (λf h=>?_) (by omega)
 ·simp only[cD h,if_true,bN h,Option.bind_some,bJ (show i<1000000 by omega),aZ,aV,lO];exact ⟨λe=>⟨⟨λ_=>⟨_,bn h,e⟩,λ_=>by omega⟩,λ_=>⟨by omega,by simpa using h,by simpa using e⟩⟩,λe=>b e⟩
 ·simp only[dX,bA,bT,aV];refine ⟨⟨λh=>by omega,λ⟨j,d,e⟩=>absurd e (BZ (A:=λj=>j.bC≠id) h j d)⟩,λh=>by omega⟩
theorem Ug.t_{s:bq}{st:cM}(R:Ug s st){i j:Nat}(o:i<st.ai.length)(u:j<st.ai.length)(e:st.ai[i].bC=st.ai[j].bC):i=j:=by
 have pw:(st.ai.map (·.bC)).Pairwise (·<·):=Lo λi o=>by rw[GB,GB];exact (R.each (i+1) (by simpa using o)).up i (by simp at o;omega) rfl
 rw[We] at pw;rcases Qc i j with h | h | h
 ·have:=pw i j (by simpa using o) (by simpa using u) h;rw[GB,GB] at this;omega
 ·exact h
 ·have:=pw j i (by simpa using u) (by simpa using o) h;rw[GB,GB] at this;omega
structure Lg (s:bq) (st:cM) (j:a_):Prop where
 Nd:zf s st j
 waits:HE s st j
 has:Vf s st j
theorem XN{s:bq}(k:bS s){st:cM}(y:lF s st)(R:Ug s st){j:a_}(hj:j∈st.aw):fB (zex 5000 s st j) (Lg s st j):=by
 have kv:=k.xG;have hl:=y.cC;have N:=y.cu;unfold zex;refine (CH j (y.after j hj)).bind λr E=>?_;rw[aZ];refine ⟨λh=>cw λq=>?_,λh=>?_⟩
 ·have:=E.2 q.Nd.ok;rw[this] at h;simp only[dZ,aQ,Fj,bA,false_or] at h;have:=q.Nd.next;have:=q.Nd.user;have:=q.Nd.queue;have:=q.Nd.born;have:=q.Nd.start;have:=q.Nd.fin;omega
 ·simp only[dZ,aQ,not_or,eS,lN] at h;have v:=E.1 h.1.1.1.1.1.1;have aa:=v.state.st;have ab:=v.start;have ad:=v.wall;simp only[jn_ite];generalize he:(if decide (j.State≥5)=true then (3:Int) else if (j.State == 4)=true then 2 else if (j.State == 3)=true then 1 else 0)=e;have ev:e=mT j.State:=by
   rw[<-he];simp only[mT,aQ,lO,ge_iff_le];split
   ·split <;> (try split) <;> (try split) <;> omega
   ·split
    ·split <;> (try split) <;> omega
    ·split <;> (try split) <;> (try split) <;> omega
  have eb:=JP j.State;refine (Qm N j.Id).bind λU o=>?_;simp only[il,zet,Option.bind_some];rw[ev,wr (x:=s.aL+mT j.State) (by omega) (by omega),aZ];refine ⟨λO=>cw λq=>?_,λO=>?_⟩
  ·have:=q.Nd.version;simp only[aQ] at O;omega
  ·simp only[aQ] at O;have I:zf s st j:=⟨v,by omega,by omega,by omega,by omega,by omega,by omega,by omega⟩;have eh:((j.State == 3) || (j.State == 4))=pX j:=rfl;rw[eh,aZ];refine ⟨λz=>cw λq=>?_,λz=>?_⟩
   ·have:=q.has.has;rw[<-o.1] at this;cases w:pX j with
    |true=>have t:=this.2 w;simp[w] at z;omega
    |false=>
     have t:¬0<=U:=λt=>by have:=this.1 t;rw[w] at this;cases this
     simp[w] at z;omega
   ·have f:(∃a∈st.ai,a.bC=j.Id)↔pX j=true:=by
     rw[<-o.1];cases w:pX j with
     |true=>simp[w] at z;simp[z]
     |false=>simp[w] at z;simp;omega
    rw[aZ];refine ⟨λP=>sE ?_,λP=>?_⟩
    ·simp only[aQ] at P;refine ⟨I,λhs=>by omega,f,λa A e=>?_⟩;have:=Zt (f.1 ⟨a,A,e⟩);omega
    ·simp only[aQ] at P;have A:=v.Bk;refine um j.aP (λ_ d=>∃i∈st.aw,i.Id=d.bC) (λm g G X hr=>?_) (λg X=>?_) (by omega)
     ·simp only[cD G,if_true,bN G,Option.bind_some,bJ (show m<1000000 by omega)];refine (wj (by omega) j.aP[m].bC).bind λr K=>?_;rw[aZ];refine ⟨λu=>cw λq=>?_,λu=>hr (K.1.1 ?_)⟩
      ·have:=K.1.2 ((q.waits (by omega)).after _ (bn G));simp only[aQ] at u;omega
      ·simp only[aQ] at u;omega
     ·simp only[dX,bA,bT];obtain ⟨b,Y,e2⟩:=Nk y.spec k (q:=j.Queue) (m:=j.aJ) v.need v.wu;rw[e2,aE,aZ];refine ⟨λu=>cw λq=>?_,λu=>?_⟩
      ·have:=(q.waits (by omega)).fits;rw[Y] at this;simp only[aj] at this;subst this;simp at u
      ·simp only[eS,lN] at u;subst u;have W:HE s st j:=λ_=>⟨Y,BZ X⟩;rw[aZ];refine ⟨λL=>sE ⟨I,W,f,λa A e=>?_⟩,λL=>?_⟩
       ·have:=f.1 ⟨a,A,e⟩;rw[this] at L;simp at L
       ·simp only[eS,lN] at L;have r0:=o.1.2 (f.2 L);have n:=o.2 r0;obtain ⟨Z,e3⟩:=ff (l:=st.ai) n.lo (by have:=n.lo;have:=n.hi;omega);have p:=bn Z;rw[wr (x:=j.Start+j.bm) (by omega) (by omega),e3,aZ];simp only[Option.bind_some];refine ⟨λM=>?_,λM=>cw λq=>?_⟩
        ·simp only[aQ] at M;rw[aZ];refine ⟨λQ=>?_,λQ=>cw λq=>Q (eI.2 (q.has.XT _ p n.is).need)⟩;have eN:=eI.1 Q;refine (Tu y.spec k j _ (jz (y.shares _ p) (by decide))).bind λr T=>?_;rw[aV,T];refine ⟨λS=>⟨I,W,f,λa A e=>?_⟩,λq=>(q.has.XT _ p n.is).Bv⟩;have:a=st.ai[U.toNat]:=by
          obtain ⟨m,G,rfl⟩:=jj A;have:=R.t_ G Z (by rw[e,n.is]);subst this;rfl
         subst this;exact ⟨e,eN,S,M⟩
        ·have:=(q.has.XT _ p n.is).now;simp only[aQ] at M;omega
theorem Ed{s:bq}{st:cM}(d:lF s st):fB (zcu 5000 s st) (Km s st):=by
 have hl:=d.cC;have hq:=d.stamps;have W:=d.use;unfold zcu;simp only[il];refine (Qo s d.spec).bind λr n=>?_;rw[aZ];refine ⟨λh=>?_,λh=>?_⟩
 ·rw[if_pos trivial];refine cw λq=>?_;have:=n.2 q.spec;rw[this] at h;have X:=q.spec.ids;have:=q.nums.now;have:=q.nums.next;have:=q.nums.book;rw[wr (x:=s.qy+1) (by omega) (by omega)] at h;simp only[dZ,aQ,Fj,bA,false_or] at h;omega
 ·simp only[dZ,aQ,not_or,eS,lN] at h;have k:=n.1 h.1.1.1.1.1;have X:=k.ids;rw[wr (x:=s.qy+1) (by omega) (by omega)] at h;refine (GM st.kf).bind λr2 o=>?_;rw[aZ];refine ⟨λp=>cw λq=>?_,λp=>?_⟩
  ·have:=o.2 (by have:=q.nums.book;omega);rw[this] at p;simp at p
  ·simp only[eS,lN] at p;have u2:=o.1 p;have Y:Lp s st:=⟨by omega,by omega,by omega⟩;rw[aZ];refine ⟨λO=>?_,λO=>?_⟩
   ·rw[if_pos trivial];refine cw λq=>?_;have:=q.cC.len;simp only[aQ] at O;omega
   ·simp only[aQ] at O;refine (Ll d).bind λr4 t=>?_;rw[aZ];refine ⟨λu=>?_,λu=>?_⟩
    ·rw[if_pos trivial];refine cw λq=>?_;have:=t.2 (VI k q.cC q.cu).1;rw[this] at u;simp at u
    ·simp only[eS,lN] at u;have R:=t.1 u;refine (PU d R).bind λr5 v=>?_;rw[aZ];refine ⟨λw=>?_,λw=>?_⟩
     ·rw[if_pos trivial];refine cw λq=>?_;have:=(v q.cC).2 q.oH;rw[this] at w;simp at w
     ·simp only[eS,lN] at w;refine (Wt st.uU s.aU (by omega)).bind λr6 y=>?_;rw[aZ];refine ⟨λz=>?_,λz=>?_⟩
      ·rw[if_pos trivial];refine cw λq=>?_;have:=y.2 ⟨q.use.len,q.use.use⟩;rw[this] at z;have:=q.use.qlen;simp only[dZ,EE,ne_eq,Fj,bA,false_or] at z;omega
      ·simp only[dZ,EE,ne_eq,not_or,Pt,eS,lN] at z;have T:=y.1 z.1;refine (GM st.aS.aq).bind λr7 A=>?_;rw[aZ];refine ⟨λE=>cw λq=>?_,λE=>?_⟩
       ·have:=A.2 q.use.nodes;rw[this] at E;simp at E
       ·simp only[eS,lN] at E;have Z:=A.1 E;refine um st.aS.am (λ_ x=>0<=x/\x<=281474976710656) (λi f a _ M=>?_) (λf hS=>?_) (by omega)
        ·simp only[cD a,if_true,bN a,Option.bind_some,bJ (show i<1000000 by omega)];refine (GM _).bind λr8 G=>?_;rw[aZ];refine ⟨λN=>cw λq=>?_,λN=>M (G.1 (by simpa using N))⟩;have:=G.2 (q.use.stamps _ (bn a));rw[this] at N;simp at N
        ·simp only[dX,bA,bT];have U:UI s st:=⟨T.1,T.2,by omega,Z,BZ hS⟩;refine um st.aw (λi j=>Lg s st j/\ET st.aw i<j.Id) (λi f a _ M=>?_) (λf P=>?_) (by omega)
         ·have hd:decide ((i:Int) > 0)=decide (0<i):=by simp
          have b:=bn a;simp only[cD a,if_true,bN a,Option.bind_some,bJ (show i<1000000 by omega),hd];refine (XN k d R b).bind λr9 K=>?_;rw[aZ];refine ⟨λL=>cw λq=>?_,λL=>?_⟩
          ·have:=K.2 ⟨q.cC.each _ b,q.waits _ b,(VI k q.cC q.cu).2 _ b⟩;rw[this] at L;simp at L
          ·simp only[eS,lN] at L;have Q:=K.1 L;rw[aZ];refine ⟨λe=>?_,λe=>?_⟩
           ·simp only[aQ] at e;obtain ⟨m,rfl⟩:∃m,i=m+1:=⟨i-1,by omega⟩;rw[wp1 (show m+1<1000000 by omega),bN (show m<st.aw.length by omega),aE,aZ];refine ⟨λg=>cw λq=>?_,λg=>M ⟨Q,?_⟩⟩
            ·have:=q.cC.cA m a;simp only[aQ] at g;omega
            ·rw[tn (by omega)];simp only[aQ] at g;omega
           ·simp only[aQ] at e;have:i=0:=by omega
            subst this;refine M ⟨Q,?_⟩;have:=Q.Nd.ok.id;simp only[ET];omega
         ·simp only[dX,bA,bT];have S:cU s st:=Nb (by omega) λi a=>⟨(P i a).1.Nd,(P i a).2⟩;have all:∀j∈st.aw,Lg s st j:=λj b=>by
           obtain ⟨m,hm,rfl⟩:=jj b;exact (P m hm).1
          exact sE ⟨k,Y,S,λj b=>(all j b).waits,of_ref k S R λj b=>(all j b).has,(v S).1 w,U⟩
end Go.Plain
end
section
namespace Go.Plain
open Go.Abs
theorem pA{l:List Int}(h:l.length<=1000000):ZG 5000 l=some l:=by unfold ZG;exact Gt h
theorem zQ{s:bq}(hs:oV s):zcE 5000 s=some s:=by
 have g:=hs.nodes;have h:=hs.parts;have j:=hs.fQ;unfold zcE;rw[Ej (by omega),aE,show zcm 5000 s.aF=some s.aF from Gt (by omega),aE];refine bY.eq (jA s.aF.length (λi x=>x=((i:Int),s.aF)) (λi x f a b d=>?_) (λx f b=>?_) rfl (by omega))
 ·subst b;have e:=hs.part _ (bn a);simp only[cD a,if_true,bN a,Option.bind_some,bJ (show i<1000000 by omega),pA (show s.aF[i].length<=1000000 by omega),Int.toNat_natCast,yBT];exact d _ rfl
 ·subst b;simp only[dX,bA,bT];rw[show za7 5000 s.am=some s.am from Gt (by omega),aE];refine jA s.am.length (λi x=>x=((i:Int),s.am)) (λi x f a b d=>?_) (λx f b=>?_) rfl (by omega)
  ·subst b;have e:=hs.queue _ (bn a);simp only[cD a,if_true,bN a,Option.bind_some,bJ (show i<1000000 by omega),pA (show s.am[i].aU.length<=1000000 by omega),Int.toNat_natCast,yBT];exact d _ (Prod.ext rfl (yBT a))
  ·subst b;simp only[dX,bA,bT,aV]
theorem Pc{n:Int}(h:1<=n/\n<=8):oa 5000 n=some (List.replicate n.toNat 0):=by simp only[oa,zc0];rw[if_neg (by simp;omega),if_neg (by simp;omega)];simp only[Option.bind_some,FU];rw[if_pos (by omega)];rfl
theorem Pf{n:Int}(h:1<=n/\n<=256):zdR 5000 n=some (.inr n):=by simp only[zdR];rw[if_neg (by simp;omega)]
theorem new_ok{s:bq}(hs:oV s)(k:bS s):eL 5000 s=some (.inr (List.replicate s.am.length 0,[],s.aq,s.aF,s.am,s.aU,s.av.uD,s.av.ee,s.av.lS,s.av.cB,s.cE,s.Mode,s.aw,s.qy,s.aL,s.bR,s.fh,s.In,s.Out,s.cG,0,1,1,List.replicate s.aU.toNat 0,0,s.aw,s.aq)):=by have a:=hs.fQ;unfold eL;rw[tq hs k,aE,if_neg (by simp),Pf k.cC,aE];dsimp only;rw[As hs k,aE];dsimp only;rw[zQ hs,aE,Pc k.yO,aE];unfold FU;rw[if_pos (by omega),aE];rw[Xd]
theorem Gx{j:a_}(h:j.aP.length<=1000000):kh 5000 j=some j:=by unfold kh;rw[show zbc 5000 j.aP=some j.aP from Gt h];rfl
theorem JU{l:List a_}(g:l.length<=300)(d:∀j∈l,j.aP.length<=10):zcv 5000 l=some l:=by
 unfold zcv;rw[show zbt 5000 l=some l from Gt (by omega),aE];refine bY.eq (jA l.length (λi x=>x=((i:Int),l)) (λi x f a b e=>?_) (λx f b=>?_) rfl (by omega))
 ·subst b;have h:=d _ (bn a);simp only[cD a,if_true,bN a,Option.bind_some,bJ (show i<1000000 by omega),Gx (show l[i].aP.length<=1000000 by omega),Int.toNat_natCast,yBT];exact e _ rfl
 ·subst b;simp only[dX,bA,bT,aV]
def mapA(A:List cN):List (Int×cN):=A.map λa=>(a.bC,a)
def Mu(A:List cN):Prop:=(A.map (·.bC)).Pairwise (·<·)
theorem TO{A:List cN}(h:Mu A):∀i (b:i<A.length),cY (mapA A) A[i].bC=some A[i]:=by
 induction A with
 |nil=>intro i b;simp at b
 |cons a A ih=>
  unfold Mu at h;rw[iH,List.pairwise_cons] at h;intro i b
  match i,b with
  |0,b=>simp[mapA,cY]
  |i + 1, b=>
   have d:i<A.length:=by simpa using b
   have:=h.1 A[i].bC (dY.2 ⟨_,bn d,rfl⟩);have e:cY (mapA (a::A)) A[i].bC=cY (mapA A) A[i].bC:=by simp only[mapA,iH,cY];rw[if_neg (by omega)]
   rw[List.getElem_cons_succ,e];exact ih h.2 i d
theorem OZ{A:List cN}{q:Int}(h:∀a∈A,a.bC≠q):cY (mapA A) q=none:=by
 induction A with
 |nil=>rfl
 |cons a A ih=>simp only[mapA,iH,cY];rw[if_neg (h a (iz ..))];exact ih λb d=>h b (h_ _ d)
theorem RK{A:List cN}{a:cN}(h:∀b∈A,b.bC≠a.bC):lV (mapA A) a.bC a=mapA (A++[a]):=by
 induction A with
 |nil=>rfl
 |cons b A ih=>have:=ih λc d=>h c (h_ _ d);simp only[mapA,List.cons_append,iH,lV] at this ⊢;rw[if_neg (h b (iz ..)),this]
theorem i64wf{n:Int}(h:0<=n/\n<=1048576):(Lit.int .i64 n).wf=true:=by
 have a:IntKind.i64.min=-9223372036854775808:=by decide
 have b:IntKind.i64.max=9223372036854775807:=by decide
 simp only[Lit.wf,bp,aQ,a,b];omega
theorem Gj{A:List cN}(m:A.length<=300)(h:Mu A)(b:∀a∈A,0<=a.bC/\a.bC<=1048576):EG (λk=>k) (mapA A)=some (A.map (·.bC)):=by
 have e:(mapA A).map Prod.fst=A.map (·.bC):=by simp[mapA]
 unfold EG;have d:∀p∈mapA A,(Lit.int .i64 p.1).wf=true:=λp f=>by obtain ⟨a,g,rfl⟩:=dY.1 f;exact i64wf (b a g)
 have i:(A.map (·.bC)).Nodup:=h.imp λh=>by omega
 have j:(mapA A).length<=1000000:=by simp[mapA];omega
 rw[e,if_pos ⟨j,i,d⟩,List.mergeSort_of_pairwise (h.imp λh=>by simp;omega)];simp
theorem BP{A:List cN}(j:A.length<=300)(h:Mu A)(k:∀a∈A,0<=a.bC/\a.bC<=1048576)(hs:∀a∈A,a.ah.length<=300):za3 5000 (mapA A)=some A:=by
 unfold za3;rw[Gj j h k,aE];refine bY.eq (jA (A.map (·.bC)).length (λi x=>x=((i:Int),A.take i)) (λi x f d g m=>?_) (λx f g=>?_) (by simp) (by simp;omega))
 ·subst g;have b:i<A.length:=by simpa using d
  have e:=TO h i b;have n:=hs _ (bn b);simp only[cD d,if_true,bN d,Option.bind_some,bJ (show i<1000000 by omega),GB,e,oel,DX (show A[i].ah.length<=1000000 by omega)];rw[Bw (by rw[km];simp;omega),aE];exact m _ (by rw[vU b])
 ·subst g;simp only[dX,bA,bT,aV,ql,uo]
theorem yL{l:List lE}(h:l.length<=1000000):zaH 5000 l=some l:=by unfold zaH;exact Gt h
theorem XK(a:Fq):Fq.beq a a=true:=by simp[Fq.beq]
theorem Pr(a:dq):dq.beq a a=true:=by simp[dq.beq]
theorem Sl(a:lE):lE.beq a a=true:=by simp[lE.beq]
theorem IB(a:aA):aA.beq a a=true:=eI.2 rfl
theorem lpT{α:Type}{b:(Int->Option Bool)->Int->Option Bool}(l:List α)(hs:∀(i:Nat)(f:Int->Option Bool)(h:i<l.length),b f (i:Int)=f ((i+1:Nat):Int))(a:∀f,b f (l.length:Int)=some true){N:Nat}(d:l.length<N):bo b N 0=some true:=
 bY.eq (um l (λ_ _=>True) (λi f h _ e=>by rw[hs i f h];exact e trivial) (λf _=>by rw[a];exact ⟨_,rfl,rfl⟩) d)
theorem Dy(l:List Int)(a:l.length<=300):zcP 5000 l l=some true:=by
 unfold zcP;rw[if_neg (by simp)];refine lpT l (λi f h=>?_) (λf=>?_) (by omega)
 ·simp only[cD h,if_true,bN h,Option.bind_some,bJ (show i<1000000 by omega),yCk,bA,bT]
 ·simp only[dX,bA,bT]
theorem UX(j:a_)(a:j.aP.length<=300):zdT 5000 j j=some true:=by
 unfold zdT;rw[if_neg (by simp)];refine lpT j.aP (λi f h=>?_) (λf=>?_) (by omega)
 ·simp only[cD h,if_true,bN h,Option.bind_some,bJ (show i<1000000 by omega),XK,Fj,bA,bT]
 ·simp only[dX,bA,bT,yCa,IB,Bool.and_self]
theorem Qs(l:List a_)(b:l.length<=300)(a:∀j∈l,j.aP.length<=10):zdY 5000 l l=some true:=by
 unfold zdY;rw[if_neg (by simp)];refine lpT l (λi f h=>?_) (λf=>?_) (by omega)
 ·have:=a _ (bn h);simp only[cD h,if_true,bN h,Option.bind_some,bJ (show i<1000000 by omega),UX l[i] (by omega),Fj,bA,bT]
 ·simp only[dX,bA,bT]
theorem yM(l:List dq)(a:l.length<=300):zcV 5000 l l=some true:=by
 unfold zcV;rw[if_neg (by simp)];refine lpT l (λi f h=>?_) (λf=>?_) (by omega)
 ·simp only[cD h,if_true,bN h,Option.bind_some,bJ (show i<1000000 by omega),Pr,Fj,bA,bT]
 ·simp only[dX,bA,bT]
theorem JV(l:List cN)(d:l.length<=300)(b:∀a∈l,a.ah.length<=300):zdU 5000 l l=some true:=by
 unfold zdU;rw[if_neg (by simp)];refine lpT l (λi f h=>?_) (λf=>?_) (by omega)
 ·have:=b _ (bn h);simp only[il,cD h,if_true,bN h,Option.bind_some,bJ (show i<1000000 by omega),yCk,IB,yM l[i].ah this,Fj,bA,bT]
 ·simp only[dX,bA,bT]
theorem KN(l:List lE)(a:l.length<=300):zd6 5000 l l=some true:=by
 unfold zd6;rw[if_neg (by simp)];refine lpT l (λi f h=>?_) (λf=>?_) (by omega)
 ·simp only[cD h,if_true,bN h,Option.bind_some,bJ (show i<1000000 by omega),Sl,Fj,bA,bT]
 ·simp only[dX,bA,bT]
theorem KT{s:bq}{st:cM}(a:lF s st):zdZ 5000 st st=some true:=by have b:=a.cC;have d:=a.use;have e:=a.stamps;have f:=a.dy;unfold zdZ;rw[if_pos (by simp),Qs _ (by omega) a.after,aE,if_pos rfl,JV _ a.cu a.sh,aE,if_pos rfl,KN _ (by omega),aE,if_pos rfl,Dy _ (by omega),aE,if_pos rfl,Dy _ (by omega),aE];simp
end Go.Plain
end
