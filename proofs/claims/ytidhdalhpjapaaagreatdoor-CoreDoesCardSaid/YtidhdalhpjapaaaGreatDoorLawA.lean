/- TyP1, TyP2, TyP3, TyP4, TyP5, TyP6, TyP7, TyP8, TyP9 -/
import Derived.Test.YtidhdalhpjapaaaGreatDoorTyPure
import Derived.KernelRfl
import Derived.Laws.BitsLemmas
set_option linter.all false
section
namespace Go.Plain
open Go.Abs
theorem wr{x:Int}(a:-9223372036854775808<=x)(d:x<9223372036854775808):IntKind.i64.wrap x=x:=by rw[IntKind.wrap_i64];omega
theorem bV{i:Nat}(h:i<1000000):IntKind.i64.wrap ((i:Int)+1)=((i+1:Nat):Int):=by rw[wr (by omega) (by omega)];rfl
theorem wp1{i:Nat}(h:i+1<1000000):IntKind.i64.wrap (((i+1:Nat):Int)-1)=(i:Int):=by rw[wr (by omega) (by omega)];omega
theorem cj{α:Type}{l:List α}{i:Nat}(h:i<l.length):aL l (i:Int)=some l[i]:=by unfold aL;rw[if_pos ⟨by omega,by omega⟩];simp[h]
theorem ey{α:Type}{l:List α}{x:Int}(d:0<=x)(h:x<l.length):∃a:x.toNat<l.length,aL l x=some (l[x.toNat]'a):=by
 have a:x.toNat<l.length:=by omega
 refine ⟨a,?_⟩;unfold aL;rw[if_pos ⟨d,h⟩,dB a]
theorem cK{i n:Nat}(h:i<n):decide ((i:Int)<(n:Int))=true:=by simp;omega
theorem cM{n:Nat}:decide ((n:Int)<(n:Int))=false:=by simp
theorem dx{α:Type}{l m:List α}(h:l.length+m.length<=1000000):bU l m=some (l++m):=by unfold bU;rw[if_pos h]
theorem jk{α:Type}{m:List α}(h:m.length<=1000000):bU [] m=some m:=by rw[dx (by simpa using h)];rfl
theorem dt{X R:Type}(r:X->Option R)(b:(X->Option R)->Option R):jn r b=b r:=rfl
def ce{β:Type}(o:Option β)(Q:β->Prop):Prop:=∃r,o=some r/\Q r
abbrev dv(o:Option Bool)(P:Prop):Prop:=ce o λb=>b=true↔P
section
variable{α β γ U:Type}{o:Option α}{P Q:α->Prop}
theorem ce.mono(h:ce o P)(i:∀r,P r->Q r):ce o Q:=by obtain ⟨r,j,s⟩:=h;exact ⟨r,j,i r s⟩
theorem ce.bind{f:α->Option β}{R:β->Prop}(h:ce o P)(i:∀r,P r->ce (f r) R):ce (o.bind f) R:=by obtain ⟨r,rfl,j⟩:=h;exact i r j
theorem bA{r:α}:ce (some r) Q↔Q r:=by simp[ce]
theorem lM{f:α->Option β}{R:β->Prop}:ce (o.bind f) R↔ce o λr=>ce (f r) R:=by cases o <;> simp[ce]
theorem bD{c:Prop}[Decidable c]{a b:Option α}:ce (if c then a else b) Q↔(c->ce a Q)/\(¬c->ce b Q):=by by_cases h:c <;> simp[h]
theorem ce.eq{r:α}(h:ce o λx=>x=r):o=some r:=by obtain ⟨_,h,rfl⟩:=h;exact h
end
section
variable{X R α:Type}{b:(X->Option R)->X->Option R}{Q:R->Prop}
theorem oe(n:Nat)(Inv:Nat->X->Prop)(hs:∀i x f,i<n->Inv i x->(∀d,Inv (i+1) d->ce (f d) Q)->ce (b f x) Q)
  (l:∀x f,Inv n x->ce (b f x) Q) {e:X} (m:Inv 0 e) {N:Nat} (q:n<N):ce (ca b N e) Q:=by
 have:∀k i x,i<=n->n<i+k->Inv i x->ce (ca b k x) Q:=by
  intro k;induction k with
  |zero=>intro i x h p;omega
  |succ k ih=>
   intro i x h p j;rcases O_ h with a | rfl
   ·exact hs i x _ a j λd g=>ih (i+1) d a (by omega) g
   ·exact l x _ j
 exact this N 0 e (OL _) (by omega) m
end
section
variable{R α:Type}{b:(Int->Option R)->Int->Option R}{Q:R->Prop}
theorem uK (l:List α) (A:Nat→α→Prop)
  (hs:∀i (f:Int→Option R) (h:i<l.length),(∀j (a:j<l.length),j<i→A j l[j])→(A i l[i]→ce (f ((i+1:Nat):Int)) Q)→ce (b f (i:Int)) Q)
  (m:∀f,(∀j (a:j<l.length),A j l[j])→ce (b f (l.length:Int)) Q) {N:Nat} (n:l.length<N):ce (ca b N 0) Q:=
 oe l.length (fun i x=>x=(i:Int)∧∀j (a:j<l.length),j<i→A j l[j])
  (fun i x f p ⟨e,d⟩ q=>by
   subst e
   exact hs i f p d fun h=>q _ ⟨rfl,fun j a g=>by
    rcases O_ (Vw.1 g) with k | k
    ·exact d j a k
    ·subst k; exact h⟩)
  (fun x f ⟨e,d⟩=>by subst e; exact m f fun j a=>d j a a) ⟨rfl,fun j a h=>absurd h (by omega)⟩ n
end
theorem AQ{α:Type}{l:List α}{A:α->Prop}(h:∀j (f:j<l.length),A l[j]):∀a∈l,A a:=λa d=>by obtain ⟨i,e,rfl⟩:=pD d;exact h i e
theorem Oc{α:Type}{b:(Int->Option Bool)->Int->Option Bool}(l:List α)(A:α->Prop)(P:Prop)(d:P->∀a∈l,A a)
  (hs:∀(i:Nat)(f:Int->Option Bool)(h:i<l.length)(Q:Bool->Prop),(A l[i]->ce (f ((i+1:Nat):Int)) Q)->(¬A l[i]->Q false)->ce (b f (i:Int)) Q)
  (e:∀f,(∀a∈l,A a)->dv (b f (l.length:Int)) P) {N:Nat} (g:l.length<N):dv (ca b N 0) P:=
 uK l (λ_ a => A a) (λi f h _ j => hs i f h _ j λk => by
   simp only[a_,AP];exact λp=>k (d p _ (bR h)))
  (λf h=>e f (AQ h)) g
structure d_ (s:aU):Prop where
 nodes:s.am.length<=40
 parts:s.aQ.length<=20
 fq:s.ah.length<=20
 part:∀p∈s.aQ,p.length<=40
 queue:∀q∈s.ah,q.aG.length<=40
theorem few07(s:aU):ce (ze3 1000 s) λr=>r=true->d_ s:=by
 simp only[ze3,bD,bA];refine ⟨by simp,λh=>?_⟩;simp only[dW,bb,not_or,Int.not_lt] at h;obtain ⟨⟨g,j⟩,k⟩:=h;refine uK s.aQ (λ_ q=>q.length<=40) (λi f h _ a=>?_) (λf d=>?_) (by omega)
 ·simp only[cK h,if_true,cj h,Option.bind_some,bV (show i<1000000 by omega),bD,bA,bb];exact ⟨by simp,λh=>a (by omega)⟩
 ·simp only[cM,a_,bn];refine uK s.ah (λ_ q=>q.aG.length<=40) (λi f h _ a=>?_) (λf e=>?_) (by omega)
  ·simp only[cK h,if_true,cj h,Option.bind_some,bV (show i<1000000 by omega),bD,bA,bb];exact ⟨by simp,λh=>a (by omega)⟩
  ·simp only[cM,a_,bn,bA];exact λ_=>⟨by omega,by omega,by omega,AQ d,AQ e⟩
theorem few17(l:List aF):ce (zeX 1000 l) λr=>r=true->l.length<=30/\∀j∈l,j.ay.length<=10:=by
 simp only[zeX,bD,bA];refine ⟨by simp,λh=>?_⟩;simp only[bb] at h;refine uK l (λ_ q=>q.ay.length<=10) (λi f h _ a=>?_) (λf d=>?_) (by omega)
 ·simp only[cK h,if_true,cj h,Option.bind_some,bV (show i<1000000 by omega),bD,bA,bb];exact ⟨by simp,λh=>a (by omega)⟩
 ·simp only[cM,a_,bn,bA];exact λ_=>⟨by omega,AQ d⟩
structure dN (s:aU) (st:bj):Prop where
 spec:d_ s
 aR:st.ae.length<=300
 after:∀j∈st.ae,j.ay.length<=10
 aW:st.ai.length<=300
 cI:st.aC.length<=20
 use:st.dl.length<=20
 stamps:st.aj.ah.length<=20
 shares:∀a∈st.ai,a.an.length<=40
theorem dN.sh{s:aU}{st:bj}(h:dN s st):∀a∈st.ai,a.an.length<=300:=λa i=>mA (h.shares a i) (by decide)
theorem few23(s:aU)(st:bj):ce (zeW 1000 s st) λr=>r=true->dN s st:=by
 simp only[zeW,dt];refine (few07 s).bind λr a=>?_;simp only[if_true,bA,bD];refine ⟨by simp,λh=>?_⟩;refine (few17 st.ae).bind λk d=>?_;simp only[ic,oN] at h;have g:=a h;simp only[bD,bA];refine ⟨by simp,λh=>?_⟩;simp only[dW,bb,not_or,Int.not_lt,ic,oN] at h;obtain ⟨⟨⟨⟨h,l⟩,m⟩,n⟩,p⟩:=h;have e:=d h;refine uK st.ai (λ_ q=>q.an.length<=40) (λi f h _ a=>?_) (λf j=>?_) (by omega)
 ·simp only[cK h,if_true,cj h,Option.bind_some,bV (show i<1000000 by omega),bD,bA,bb];exact ⟨by simp,λh=>a (by omega)⟩
 ·simp only[cM,a_,bn,bA];exact λ_=>⟨g,mA e.1 (by decide),e.2,by omega,by omega,by omega,by omega,AQ j⟩
def KD(lo a x:Int):Bool:=decide (lo<=x)&&decide (x<=a)
structure aX (r:aJ):Prop where
 Av:0<=r.bP/\r.bP<=1048576
 mem:0<=r.Mem/\r.Mem<=1048576
 Br:0<=r.bS/\r.bS<=1048576
 BH:0<=r.b_/\r.b_<=1048576
theorem kP(r:aJ):dv (QZ 1000 r) (aX r):=by simp only[QZ,zb5,bA,Option.bind_some,bD,bJ,bb,a_,AP,dv];refine ⟨λa=>⟨λd=>⟨λe=>⟨λf=>⟨a,d,e,f⟩,λh=>h.BH⟩,λe h=>e h.Br⟩,λd h=>d h.mem⟩,λa h=>a h.Av⟩
theorem at4x0{a b c d:Int}:aL [a,b,c,d] 0=some a:=rfl
theorem at4x1{a b c d:Int}:aL [a,b,c,d] 1=some b:=rfl
theorem at4x2{a b c d:Int}:aL [a,b,c,d] 2=some c:=rfl
theorem at4x3{a b c d:Int}:aL [a,b,c,d] 3=some d:=rfl
theorem lpN(l:List Int)(lo d n:Int)(e:(l.length:Int)=n){E:Option Bool}{Q:Bool->Prop}(g:¬(∀a∈l,lo<=a/\a<=d)->Q false)(j:(∀a∈l,lo<=a/\a<=d)->ce E Q)(k:l.length<1000) :
  ce (ca (λ(f:Int->Option Bool) (x:Int)=>if (decide (x<n))=true then (aL l x).bind λy=>if ((decide (y<lo)) || (decide (y > d)))=true then some false else f (IntKind.i64.wrap (x+1)) else E) 1000 0) Q:=by
 subst e;refine uK l (λ_ a=>lo<=a/\a<=d) (λi f h _ m=>?_) (λf h=>?_) k
 ·simp only[cK h,if_true,cj h,Option.bind_some,bV (show i<1000000 by omega),bD,bA,dW,bb];exact ⟨λq=>g λp=>by have:=p _ (bR h);omega,λh=>m (by omega)⟩
 ·simp only[cM,a_,bn];exact j (AQ h)
theorem yt{a b c d lo e:Int}:(∀x∈[a,b,c,d],lo<=x/\x<=e)↔(lo<=a/\a<=e)/\(lo<=b/\b<=e)/\(lo<=c/\c<=e)/\(lo<=d/\d<=e):=by simp
theorem FG{a b c lo d:Int}:(∀x∈[a,b,c],lo<=x/\x<=d)↔(lo<=a/\a<=d)/\(lo<=b/\b<=d)/\(lo<=c/\c<=d):=by simp
theorem Mk(r:aJ):dv (Md 1000 r) (aX r):=by
 simp only[Md,fQ,Option.bind_some];refine lpN [r.bP,r.Mem,r.bS,r.b_] 0 1048576 4 rfl (λh=>?_) (λh=>?_) (by simp)
 ·simp only[a_,AP];exact λv=>h (yt.2 ⟨v.Av,v.mem,v.Br,v.BH⟩)
 ·rw[bA];obtain ⟨a,d,e,f⟩:=yt.1 h;exact ⟨λ_=>⟨a,d,e,f⟩,λ_=>rfl⟩
def cq:aJ:={ bP:=0,Mem:=0,bS:=0,b_:=0 }
theorem dD{a b:aJ}:aJ.beq a b=true↔a=b:=by obtain ⟨d,e,f,g⟩:=a;obtain ⟨h,i,j,k⟩:=b;simp[aJ.beq]
end Go.Plain
end
section
namespace Go.Plain
open Go.Abs
theorem Dt{x:ByteArray}(h:x.toList.isEmpty=false):x.toList≠[]:=by intro e;rw[e] at h;cases h
def KP(l:List Int):Nat->Int
 |0=>-1
 |i+1=>l[i]?.getD 0
theorem tR{l:List Int}{i:Nat}(h:i<l.length):KP l (i+1)=l[i]:=by simp[KP,h]
def nq(l:List Int)(n:Int):Prop:=∀i (h:i<l.length),KP l i<l[i]/\l[i]<n
theorem nq.nn{l:List Int}{n:Int}(h:∀i (j:i<l.length),KP l i<l[i]):∀i (j:i<l.length),0<=l[i]:=by
 intro i;induction i with
 |zero=>intro j;have:=h 0 j;simp only[KP] at this;omega
 |succ i ih=>intro j;have:=h (i+1) j;rw[tR (by omega)] at this;have:=ih (by omega);omega
theorem nq.mem{l:List Int}{n:Int}(h:nq l n):∀x∈l,0<=x/\x<n:=λx s=>by obtain ⟨i,j,rfl⟩:=pD s;exact ⟨nq.nn (n:=n) (λi j=>(h i j).1) i j,(h i j).2⟩
theorem ascending(l:List Int)(n:Int)(r:l.length<99):dv (zeN 1000 l n) (nq l n):=by
 simp only[zeN];refine oe l.length (λi x=>x=(KP l i,(i:Int))/\∀j (d:j<l.length),j<i->KP l j<l[j]/\l[j]<n) (λi x f a e p=>?_) (λx f e=>?_) ⟨rfl,λj d h=>by omega⟩ (by omega)
 ·obtain ⟨rfl,g⟩:=e;simp only[cK a,if_true,cj a,Option.bind_some,bV (show i<1000000 by omega),bD,bA,dW,bb];refine ⟨λh=>?_,λh=>p _ ⟨by rw[tR a],λj d k=>?_⟩⟩
  ·simp only[a_,AP];intro q;have:=q i a;omega
  ·rcases O_ (Vw.1 k) with m | m
   ·exact g j d m
   ·subst m;omega
 ·obtain ⟨rfl,g⟩:=e;simp only[cM,a_,bn,bA,KG];exact λi a=>g i a a
theorem BS(l:List Int)(n:Int)(r:l.length<99):dv (zcB 1000 l n) (nq l n):=by
 simp only[zcB,dt];refine uK l (λi a=>KP l i<a/\a<n) (λi f h s d=>?_) (λf h=>?_) (by omega)
 ·have hd:decide ((i:Int) > 0)=decide (0<i):=by simp
  simp only[cK h,if_true,cj h,Option.bind_some,bV (show i<1000000 by omega),bD,bA,bb,hd,a_,bn];have bad:¬(KP l i<l[i]/\l[i]<n)->(False↔nq l n):=λg=>by simp only[AP];exact λe=>g (e i h)
  refine ⟨λj=>?_,λj=>⟨λk=>bad (by omega),λk=>⟨λp=>?_,λp=>?_⟩⟩⟩
  ·simp only[AP];intro e;have:=(e.mem _ (bR h)).1;omega
  ·obtain ⟨m,rfl⟩:∃m,i=m+1:=⟨i-1,by omega⟩;rw[wp1 (show m+1<1000000 by omega),cj (show m<l.length by omega)];rw[tR (by omega)] at bad d;simp only[Option.bind_some,bD,bb,bA,a_];exact ⟨λq=>bad (by omega),λq=>d ⟨by omega,by omega⟩⟩
  ·have:i=0:=by omega
   subst this;exact d ⟨by simp only[KP];omega,by omega⟩
 ·simp only[cM,a_,bn,bA,KG];exact h
structure Bw (s:aU):Prop where
 lo:1<=s.am.length
 hi:s.am.length<=16
 ok:∀r∈s.am,aX r
theorem LS(s:aU):dv (ff 1000 s) (Bw s):=by
 simp only[ff,bD,bA];refine ⟨λh=>?_,λh=>?_⟩
 ·simp only[dW,bb] at h;simp only[a_,AP];intro k;have:=k.lo;have:=k.hi;omega
 ·simp only[dW,bb,not_or] at h;refine Oc s.am aX _ (λk=>k.ok) (λi f a Q g j=>?_) (λf l=>?_) (by omega)
  ·simp only[cK a,if_true,cj a,Option.bind_some,bV (show i<1000000 by omega)];refine (Mk _).bind λr d=>?_;simp only[bD,bA,ic,oN];exact ⟨λe=>j (by rw[<-d,e];simp),λe=>g (d.1 e)⟩
  ·simp only[cM,a_,bn,bA,KG];exact ⟨by omega,by omega,l⟩
theorem Qb(s:aU)(hs:d_ s):dv (zcI 1000 s) (Bw s):=by
 have:=hs.nodes;simp only[zcI];refine Oc s.am aX _ (λk=>k.ok) (λi f a Q g j=>?_) (λf l=>?_) (by omega)
 ·simp only[cK a,if_true,cj a,Option.bind_some,bV (show i<1000000 by omega)];refine (kP _).bind λr d=>?_;simp only[bD,bA,ic,oN];exact ⟨λe=>j (by rw[<-d,e];simp),λe=>g (d.1 e)⟩
 ·simp only[cM,a_,bn,y_,Option.bind_some,bA,bJ,bb];exact ⟨λh=>⟨by omega,by omega,l⟩,λh=>by have:=h.lo;have:=h.hi;omega⟩
structure AZ (s:aU):Prop where
 lo:1<=s.aQ.length
 hi:s.aQ.length<=8
 ok:∀p∈s.aQ,1<=p.length/\nq p s.am.length
theorem Nd(s:aU)(hs:d_ s):dv (fe 1000 s) (AZ s):=by
 simp only[fe,dt,bD,bA];refine ⟨λh=>?_,λh=>?_⟩
 ·simp only[dW,bb] at h;simp only[a_,AP];intro k;have:=k.lo;have:=k.hi;omega
 ·simp only[dW,bb,not_or] at h;refine Oc s.aQ (λp=>1<=p.length/\nq p s.am.length) _ (λk=>k.ok) (λi f a Q l g=>?_) (λf m=>?_) (by omega)
  ·have:=hs.part _ (bR a);simp only[cK a,if_true,cj a,Option.bind_some,bV (show i<1000000 by omega),bD,bA,bb];refine ⟨λe=>g (by omega),λe=>?_⟩;refine (ascending _ _ (by omega)).bind λr j=>?_;simp only[bD,bA,ic,oN];exact ⟨λd=>g (by rw[<-j,d];simp),λd=>l ⟨by omega,j.1 d⟩⟩
  ·simp only[cM,a_,bn,bA,KG];exact ⟨by omega,by omega,m⟩
theorem QP(s:aU)(hs:d_ s):dv (zcU 1000 s) (AZ s):=by
 have:=hs.parts;simp only[zcU,dt];refine Oc s.aQ (λp=>1<=p.length/\nq p s.am.length) _ (λk=>k.ok) (λi f a Q l g=>?_) (λf m=>?_) (by omega)
 ·have:=hs.part _ (bR a);simp only[cK a,if_true,cj a,Option.bind_some,bV (show i<1000000 by omega),bD,bA,bb];refine ⟨λe=>g (by omega),λe=>?_⟩;refine (BS _ _ (by omega)).bind λr j=>?_;simp only[bD,bA,ic,oN];exact ⟨λd=>g (by rw[<-j,d];simp),λd=>l ⟨by omega,j.1 d⟩⟩
 ·simp only[cM,a_,bn,y_,Option.bind_some,bA,bJ,bb];exact ⟨λh=>⟨by omega,by omega,m⟩,λh=>by have:=h.lo;have:=h.hi;omega⟩
structure GQ (s:aU) (q:sG):Prop where
 part:0<=q.Part/\q.Part<s.aQ.length
 v_:nq q.aG s.aG
 aR:1<=q.dS/\q.dS<=256
 run:1<=q.nY/\q.nY<=256
 user:1<=q.je/\q.je<=256
 qos:0<=q.jT/\q.jT<=100
structure yn (s:aU):Prop where
 lo:1<=s.ah.length
 hi:s.ah.length<=8
 ok:∀q∈s.ah,GQ s q
theorem Kk(s:aU)(hs:d_ s):dv (ze4 1000 s) (yn s):=by
 simp only[ze4,dt,bD,bA];refine ⟨λh=>?_,λh=>?_⟩
 ·simp only[dW,bb] at h;simp only[a_,AP];intro k;have:=k.lo;have:=k.hi;omega
 ·simp only[dW,bb,not_or] at h;refine Oc s.ah (GQ s) _ (λk=>k.ok) (λi f g Q m d=>?_) (λf n=>?_) (by omega)
  ·have:=hs.queue _ (bR g);simp only[cK g,if_true,cj g,Option.bind_some,bV (show i<1000000 by omega),a_,bn];rw[bD];refine ⟨λe=>?_,λe=>?_⟩
   ·simp only[dW,bb] at e;rw[bA];exact d λk=>by have:=k.part;omega
   ·simp only[dW,bb,not_or] at e;refine (ascending _ _ (by omega)).bind λr l=>?_;rw[bD];refine ⟨λa=>?_,λa=>?_⟩
    ·rw[bA];simp only[ic] at a;exact d λk=>by have:=l.2 k.v_;rw[a] at this;simp at this
    ·simp only[ic,oN] at a;refine lpN [_,_,_] 1 256 3 rfl (λp=>d λk=>p (FG.2 ⟨k.aR,k.run,k.user⟩)) (λq=>?_) (by simp);obtain ⟨t,u,v⟩:=FG.1 q;rw[bD];refine ⟨λj=>?_,λj=>?_⟩
     ·simp only[dW,bb] at j;rw[bA];exact d λk=>by have:=k.qos;omega
     ·simp only[dW,bb,not_or] at j;exact m ⟨by omega,l.1 a,t,u,v,by omega⟩
  ·simp only[cM,a_,bn,bA,KG];exact ⟨by omega,by omega,n⟩
theorem MD(s:aU)(hs:d_ s):dv (zcx 1000 s) (yn s):=by
 have:=hs.fq;simp only[zcx,dt];refine Oc s.ah (GQ s) _ (λk=>k.ok) (λi f d Q l a=>?_) (λf m=>?_) (by omega)
 ·have:=hs.queue _ (bR d);simp only[cK d,if_true,cj d,Option.bind_some,bV (show i<1000000 by omega),a_,bn];rw[bD];refine ⟨λe=>?_,λe=>?_⟩
  ·simp only[dW,bb] at e;rw[bA];exact a λk=>by have:=k.part;omega
  ·simp only[dW,bb,not_or] at e;refine (BS _ _ (by omega)).bind λr j=>?_;simp only[y_,Option.bind_some,bD,bA,ic,oN,bJ,bb,yBk,Ux];refine ⟨λg=>a λk=>by have:=j.2 k.v_;rw[g] at this;simp at this,λg=>⟨λn=>a λk=>by have:=k.aR;omega,λn=>⟨λp=>a λk=>by have:=k.run;omega,λp=>⟨λq=>a λk=>by have:=k.user;omega,λq=>⟨λt=>a λk=>by have:=k.qos;omega,λt=>?_⟩⟩⟩⟩⟩;exact l ⟨by omega,j.1 g,by omega,by omega,by omega,by omega⟩
 ·simp only[cM,a_,bn,y_,Option.bind_some,bA,bJ,bb];exact ⟨λh=>⟨by omega,by omega,m⟩,λh=>by have:=h.lo;have:=h.hi;omega⟩
structure zU (w:KN):Prop where
 age:0<=w.pF/\w.pF<=1000
 size:0<=w.dh/\w.dh<=1000
 qos:0<=w.jT/\w.jT<=1000
 ZB:0<=w.bX/\w.bX<=1000
theorem FU(w:KN):dv (zet 1000 w) (zU w):=by
 simp only[zet];refine lpN [w.pF,w.dh,w.jT,w.bX] 0 1000 4 rfl (λh=>?_) (λh=>?_) (by simp)
 ·simp only[a_,AP];exact λv=>h (yt.2 ⟨v.age,v.size,v.qos,v.ZB⟩)
 ·rw[bA];obtain ⟨a,d,e,f⟩:=yt.1 h;exact ⟨λ_=>⟨a,d,e,f⟩,λ_=>rfl⟩
structure aZ (s:aU):Prop where
 nodes:Bw s
 parts:AZ s
 v_:1<=s.aG/\s.aG<=8
 fq:yn s
 weights:zU s.ar
 Zb:1<=s.bZ/\s.bZ<=16
 mode:s.Mode=1∨s.Mode=2
 aR:1<=s.ae/\s.ae<=256
 ids:1<=s.eJ/\s.eJ<=1048576
 dr:1<=s.aB/\s.aB<=65536
 TP:0<=s.bC/\s.bC<=65536
 cX:1<=s.dg/\s.dg<=16
 KD:1<=s.In/\s.In<=8
 out:1<=s.Out/\s.Out<=16
 Zh:0<=s.bW/\s.bW<=16
theorem pI(s:aU)(hs:d_ s):dv (Oj 1000 s) (aZ s):=by
 simp only[Oj,zt];obtain ⟨S,A,m⟩:=LS s;obtain ⟨W,E,n⟩:=Nd s hs;obtain ⟨Y,F,r⟩:=Kk s hs;obtain ⟨Z,G,t⟩:=FU s.ar;simp only[A,E,F,G,Option.bind_some];have T:∀(x:ByteArray),x.toList≠[]->(¬aZ s)->ce ((some x).bind λa=>some (a.toList == (⟨#[]⟩:ByteArray).toList)) λb=>b=true↔aZ s:=λx q K=>by
  rw[aE,bA];have:(⟨#[]⟩:ByteArray).toList=[]:=by kernel_rfl
  rw[this];simp only[lm];exact ⟨λh=>absurd h q,λh=>absurd h K⟩
 have step:∀(c:Bool)(x:ByteArray)(o:Option ByteArray),x.toList.isEmpty=false->(c=false->¬aZ s)->(c=true->ce (o.bind λa=>some (a.toList == (⟨#[]⟩:ByteArray).toList)) λb=>b=true↔aZ s) ->
   ce ((if (!c)=true then some x else o).bind λa=>some (a.toList == (⟨#[]⟩:ByteArray).toList)) λb=>b=true↔aZ s:=λc x o q m n=>by
  cases c with
  |false=>exact T x (by intro h;rw[h] at q;cases q) (m rfl)
  |true=>exact n rfl
 have nb:∀{b:Bool}{p:Prop},(b=true↔p)->b=false->¬p:=λh e L=>by rw[h.2 L] at e;cases e
 refine step _ _ _ (by kernel_rfl) (λe k=>nb m e k.nodes) λc1=>?_;refine step _ _ _ (by kernel_rfl) (λe k=>nb n e k.parts) λM=>?_;refine step _ _ _ (by kernel_rfl) (λe k=>by have:=k.v_;simp at e;omega) λu=>?_;refine step _ _ _ (by kernel_rfl) (λe k=>nb r e k.fq) λN=>?_;refine step _ _ _ (by kernel_rfl) (λe k=>nb t e k.weights) λO=>?_;refine step _ _ _ (by kernel_rfl) (λe k=>by have:=k.Zb;simp at e;omega) λv=>?_;refine step _ _ _ (by kernel_rfl) (λe k=>by have:=k.mode;simp at e;omega) λw=>?_;refine step _ _ _ (by kernel_rfl) (λe k=>by have:=k.aR;simp at e;omega) λy=>?_;refine step _ _ _ (by kernel_rfl) (λe k=>by have:=k.ids;simp at e;omega) λz=>?_;refine step _ _ _ (by kernel_rfl) (λe k=>by have:=k.dr;simp at e;omega) λd=>?_;refine step _ _ _ (by kernel_rfl) (λe k=>by have:=k.TP;simp at e;omega) λf=>?_;refine step _ _ _ (by kernel_rfl) (λe k=>by have:=k.cX;simp at e;omega) λg=>?_;refine step _ _ _ (by kernel_rfl) (λe k=>by have:=k.KD;simp at e;omega) λi=>?_;refine step _ _ _ (by kernel_rfl) (λe k=>by have:=k.out;simp at e;omega) λj=>?_;refine step _ _ _ (by kernel_rfl) (λe k=>by have:=k.Zh;simp at e;omega) λl=>?_;rw[aE,bA];simp only[Rj,KG];simp only[bJ,dW,bb,lm] at u v w y z d f g i j l;exact ⟨m.1 c1,n.1 M,u,r.1 N,t.1 O,v,w,y,z,d,f,g,i,j,l⟩
theorem Jt{n:Nat}(hN:15<n){s:aU}{m p q:Bool}(e1:zcI n s=some m)(K:m=true↔Bw s)(e2:zcU n s=some p)(N:p=true↔AZ s)(e4:zcx n s=some q)(O:q=true↔yn s):dv (zb4 n s) (aZ s):=by
 simp only[zb4,gV,e1,e2,e4,Option.bind_some,y_,dt];have d:∀w:Bool,(w=true↔zU s.ar)->∀(L:List Bool)(M:List ByteArray),L=[m,p,decide (1<=s.aG)&&decide (s.aG<=8),q,w,decide (1<=s.bZ)&&decide (s.bZ<=16),decide (1<=s.Mode)&&decide (s.Mode<=2),decide (1<=s.ae)&&decide (s.ae<=256),decide (1<=s.eJ)&&decide (s.eJ<=1048576),decide (1<=s.aB)&&decide (s.aB<=65536),decide (0<=s.bC)&&decide (s.bC<=65536),decide (1<=s.dg)&&decide (s.dg<=16),decide (1<=s.In)&&decide (s.In<=8),decide (1<=s.Out)&&decide (s.Out<=16),decide (0<=s.bW)&&decide (s.bW<=16)] ->
   (∀x∈M,x.toList≠[])->M.length=15 ->
   ce ((ca (λ(r:Int->Option ByteArray) (g:Int)=>if (decide (g<15))=true then (aL L g).bind λt=>if (!t)=true then (aL M g).bind λu=>some u else r (IntKind.i64.wrap (g+1)) else some (⟨#[]⟩:ByteArray)) n 0).bind λr1=>some (r1.toList == (⟨#[]⟩:ByteArray).toList)) λb=>b=true↔aZ s:=by
  intro w S L M T hM W;have j:L.length=15:=by rw[T];rfl
  have v:(15:Int)=(L.length:Int):=by rw[j];rfl
  have all:(∀x∈L,x=true)↔aZ s:=by
   rw[T];simp only[me,yB0,or_false,forall_eq_or_imp,forall_eq,bJ,bb];constructor
   ·rintro ⟨c1,c2,c3,c4,c5,c6,c7,c8,c9,y,z,A,E,F,G⟩;exact ⟨K.1 c1,N.1 c2,c3,O.1 c4,S.1 c5,c6,by omega,c8,c9,y,z,A,E,F,G⟩
   ·intro k;have:=k.mode;exact ⟨K.2 k.nodes,N.2 k.parts,k.v_,O.2 k.fq,S.2 k.weights,k.Zb,by omega,k.aR,k.ids,k.dr,k.TP,k.cX,k.KD,k.out,k.Zh⟩
  rw[lM,v];have nil:(⟨#[]⟩:ByteArray).toList=[]:=by kernel_rfl
  refine uK L (λ_ x=>x=true) (λi f h _ Y=>?_) (λf hA=>?_) (by omega)
  ·simp only[cK h,if_true,cj h,cj (l:=M) (show i<M.length by omega),Option.bind_some,bV (show i<1000000 by omega),bD,bA,ic,oN,nil,lm] at Y ⊢;exact ⟨λe=>⟨λh'=>absurd h' (hM _ (bR _)),λk=>by have:=all.2 k _ (bR h);rw[e] at this;cases this⟩,λe=>Y e⟩
  ·simp only[cM,a_,bn,bA,Rj,KG];exact all.1 (AQ hA)
 have a:∀x∈([(⟨#[78,111,100,101,115]⟩:ByteArray),(⟨#[80,97,114,116,115]⟩:ByteArray),(⟨#[85,115,101,114,115]⟩:ByteArray),(⟨#[81,117,101,117,101,115]⟩:ByteArray),(⟨#[87,101,105,103,104,116,115]⟩:ByteArray),(⟨#[68,101,99,97,121]⟩:ByteArray),(⟨#[77,111,100,101]⟩:ByteArray),(⟨#[74,111,98,115]⟩:ByteArray),(⟨#[73,100,115]⟩:ByteArray),(⟨#[86,101,114,115,105,111,110,115]⟩:ByteArray),(⟨#[76,105,110,103,101,114]⟩:ByteArray),(⟨#[75,101,101,112]⟩:ByteArray),(⟨#[73,110]⟩:ByteArray),(⟨#[79,117,116]⟩:ByteArray),(⟨#[67,97,99,104,101]⟩:ByteArray)]:List ByteArray),x.toList≠[]:=by intro x Z;simp only[me,yB0,or_false] at Z;rcases Z with rfl | rfl | rfl | rfl | rfl | rfl | rfl | rfl | rfl | rfl | rfl | rfl | rfl | rfl | rfl <;> exact Dt (by kernel_rfl)
 split
 ·rename_i w1;split
  ·rename_i w2;split
   ·rename_i w3;refine d _ ?_ _ _ rfl a rfl;simp only[bJ,bb] at w1 w2 w3 ⊢;exact ⟨λw4=>⟨w1,w2,w3,w4⟩,λk=>k.ZB⟩
   ·rename_i w3;refine d _ ?_ _ _ rfl a rfl;simp only[bJ,bb] at w3;simp only[a_,AP];exact λk=>w3 k.qos
  ·rename_i w2;refine d _ ?_ _ _ rfl a rfl;simp only[bJ,bb] at w2;simp only[a_,AP];exact λk=>w2 k.size
 ·rename_i w1;refine d _ ?_ _ _ rfl a rfl;simp only[bJ,bb] at w1;simp only[a_,AP];exact λk=>w1 k.age
theorem EE(s:aU)(hs:d_ s):dv (zb4 1000 s) (aZ s):=by obtain ⟨i,a,d⟩:=Qb s hs;obtain ⟨j,e,f⟩:=QP s hs;obtain ⟨k,g,h⟩:=MD s hs;exact Jt (by decide) a d e f g h
end Go.Plain
end
section
namespace Go.Plain
open Go.Abs
structure zc (L:List (Int×Int)) (k:Int):Prop where
 lo:0<=k
 hi:k<=64
 fit:∀p∈L,k * p.2<=p.1
 max:k<64->∃p∈L,p.1<(k+1) * p.2
theorem zc.LJ{L:List (Int×Int)}{k j:Int}(z:∀p∈L,0<=p.2)(h:zc L k)(s:zc L j):k=j:=by
 have i:∀{a b:Int},zc L a->zc L b->¬a<b:=λ{a b} A u E=>by obtain ⟨p,x,F⟩:=A.max (by have:=u.hi;omega);have G:=u.fit p x;have K:(a+1) * p.2<=b * p.2:=ZQ (by omega) (z p x);omega
 have:=i h s;have:=i s h;omega
theorem zc.nil:zc [] 64:=⟨by omega,by omega,by simp,by simp⟩
def qm(n a b:Int):Int:=if b > 0 then (if a.tdiv b<n then a.tdiv b else n) else n
theorem zc.step{L:List (Int×Int)}{k a b:Int}(h:zc L k)(z:∀p∈L,0<=p.2)(s:0<=a)(M:0<=b):zc (L++[(a,b)]) (qm k a b):=by
 unfold qm;have u:=h.lo;have x:=h.hi;split
 ·rename_i j;rw[xAm s];have A:a / b * b<=a:=Int.ediv_mul_le a (by omega);have E:a<(a / b+1) * b:=Int.lt_ediv_add_one_mul_self a j;have F:0<=a / b:=Int.ediv_nonneg s (by omega);split
  ·rename_i G;refine ⟨F,by omega,λp i=>?_,λ_=>⟨(a,b),by simp,E⟩⟩;rcases zC.1 i with i | i
   ·have:=h.fit p i;have:a / b * p.2<=k * p.2:=ZQ (by omega) (z p i);omega
   ·simp only[Kz] at i;subst i;exact A
  ·rename_i K;refine ⟨u,x,λp i=>?_,λhk=>?_⟩
   ·rcases zC.1 i with i | i
    ·exact h.fit p i
    ·simp only[Kz] at i;subst i;have:k * b<=a / b * b:=ZQ (by omega) (by omega);dsimp only;omega
   ·obtain ⟨p,i,q⟩:=h.max hk;exact ⟨p,Zk _ i,q⟩
 ·rename_i j;have:b=0:=by omega
  subst this;refine ⟨u,x,λp i=>?_,λhk=>?_⟩
  ·rcases zC.1 i with i | i
   ·exact h.fit p i
   ·simp only[Kz] at i;subst i;simp;exact s
  ·obtain ⟨p,i,q⟩:=h.max hk;exact ⟨p,Zk _ i,q⟩
theorem LR{n a b:Int}(h:b > 0):qm n a b=if a.tdiv b<n then a.tdiv b else n:=by unfold qm;rw[if_pos h]
theorem LY{n a b:Int}(h:¬b > 0):qm n a b=n:=by unfold qm;rw[if_neg h]
def Um(a b:aJ):List (Int×Int):=[(a.bP,b.bP),(a.Mem,b.Mem),(a.bS,b.bS),(a.b_,b.b_)]
def wO(a b:aJ):Int:=qm (qm (qm (qm 64 a.bP b.bP) a.Mem b.Mem) a.bS b.bS) a.b_ b.b_
theorem Hf{a b:aJ}(e:aX a)(d:aX b):zc (Um a b) (wO a b):=by have f:=zc.nil;have g:=f.step (by simp) e.Av.1 d.Av.1;have h:=g.step (by simp;exact d.Av.1) e.mem.1 d.mem.1;have i:=h.step (by simp;exact ⟨d.Av.1,d.mem.1⟩) e.Br.1 d.Br.1;have j:=i.step (by simp;exact ⟨d.Av.1,d.mem.1,d.Br.1⟩) e.BH.1 d.BH.1;exact j
theorem w1:IntKind.i64.wrap (0+1)=1:=rfl
theorem w2:IntKind.i64.wrap (1+1)=2:=rfl
theorem w3:IntKind.i64.wrap (2+1)=3:=rfl
theorem w4:IntKind.i64.wrap (3+1)=4:=rfl
theorem wq{a b:Int}(d:0<=a/\a<=1048576)(e:0<b):P_ .i64 a b=some (a.tdiv b):=by unfold P_;rw[if_neg (by omega)];have f:0<=a / b:=Int.ediv_nonneg d.1 (by omega);have g:a / b<=a:=Int.ediv_le_self b d.1;rw[xAm d.1,wr (by omega) (by omega)]
def XF(a b:aJ):Nat->Int
 |0=>64
 |1=>qm 64 a.bP b.bP
 |2=>qm (qm 64 a.bP b.bP) a.Mem b.Mem
 |3=>qm (qm (qm 64 a.bP b.bP) a.Mem b.Mem) a.bS b.bS
 |_=>wO a b
theorem count{a b:aJ}(g:aX a)(l:aX b)(m:b≠cq):oC 1000 a b=some (wO a b):=by
 obtain ⟨u,n,p⟩:=Mk a;obtain ⟨v,q,r⟩:=Mk b;have s:=p.2 g;have t:=r.2 l;subst s t;have j:aJ.beq b cq=false:=by
  cases h:aJ.beq b cq with
  |false=>rfl
  |true=>exact absurd (dD.1 h) m
 simp only[oC,dt,n,q,Option.bind_some,zM,a_,bn,yBB,fQ];change (if aJ.beq b cq=true then some 0 else _)=_;rw[j];simp only[a_,bn];refine ce.eq (oe 4 (λi x=>x=(XF a b i,(i:Int))) (λi x f w k e=>?_) (λx f k=>?_) rfl (by omega))
 ·subst k;rcases (show i=0∨i=1∨i=2∨i=3 by omega) with rfl | rfl | rfl | rfl
  ·rw[show ((0:Nat):Int)=0 from rfl];simp only[show decide ((0:Int)<4)=true from rfl,if_true,at4x0,Option.bind_some,w1,bD,bb];refine ⟨λd=>?_,λd=>e _ (by simp[XF,qm,d])⟩;rw[wq g.Av d,aE];exact e _ (by simp[XF,qm,d])
  ·rw[show ((1:Nat):Int)=1 from rfl];simp only[show decide ((1:Int)<4)=true from rfl,if_true,at4x1,Option.bind_some,w2,bD,bb];refine ⟨λd=>?_,λd=>e _ (by simp only[XF,wO,LY d];rfl)⟩;rw[wq g.mem d,aE];exact e _ (by simp only[XF,wO,LR d];rfl)
  ·rw[show ((2:Nat):Int)=2 from rfl];simp only[show decide ((2:Int)<4)=true from rfl,if_true,at4x2,Option.bind_some,w3,bD,bb];refine ⟨λd=>?_,λd=>e _ (by simp only[XF,wO,LY d];rfl)⟩;rw[wq g.Br d,aE];exact e _ (by simp only[XF,wO,LR d];rfl)
  ·rw[show ((3:Nat):Int)=3 from rfl];simp only[show decide ((3:Int)<4)=true from rfl,if_true,at4x3,Option.bind_some,w4,bD,bb];refine ⟨λd=>?_,λd=>e _ (by simp only[XF,wO,LY d];rfl)⟩;rw[wq g.BH d,aE];exact e _ (by simp only[XF,wO,LR d];rfl)
 ·subst k;simp only[show decide (((4:Nat):Int)<4)=false from rfl,a_,bn,bA];rfl
theorem zj{b:aJ}(a:aX b):NM 1000 b cq=some (decide (b=cq)):=by simp only[NM,aw];have:=a.Av;have:=a.mem;have:=a.Br;have:=a.BH;rw[yB8];simp only[bJ,bb];obtain ⟨d,e,f,g⟩:=b;simp only[cq,aJ.mk.injEq];simp only at *;omega
theorem PW{a b:aJ}(j:aX a)(g:aX b)(z:b≠cq):zcJ 1000 a b=some (wO a b):=by
 obtain ⟨Y,A,u⟩:=kP a;obtain ⟨Z,E,v⟩:=kP b;have F:=u.2 j;have G:=v.2 g;subst F G;simp only[zcJ,dt,A,E,Option.bind_some,zM,a_,bn];have K:NM 1000 b ({ bP:=0,Mem:=0,bS:=0,b_:=0 }:aJ)=some (decide (b=cq)):=zj g;rw[K];simp only[Option.bind_some,z,decide_false,a_,bn];have hc:=j.Av;have hm:=j.mem;have hg:=j.Br;have hl:=j.BH;have l:=g.Av;have m:=g.mem;have n:=g.Br;have q:=g.BH;have L:∀p∈Um a b,0<=p.2:=by
  intro p e;simp only[Um,me,yB0,or_false] at e;rcases e with rfl | rfl | rfl | rfl
  ·exact l.1
  ·exact m.1
  ·exact n.1
  ·exact q.1
 have done:∀k:Int,zc (Um a b) k->k=wO a b:=λk hk=>hk.LJ L (Hf j g);have d:∀{i:Nat}{y:Int},i<=65->0<=y/\y<=1048576->0<=(i:Int) * y/\(i:Int) * y<=68157440:=λ{i y} M w=>by have u:0<=(i:Int) * y:=yBV (by omega) w.1;have v:(i:Int) * y<=65 * y:=ZQ (by omega) w.1;omega
 refine ce.eq (oe 64 (λi x=>x=((i:Int),((i+1:Nat):Int) * b.bP,((i+1:Nat):Int) * b.Mem,((i+1:Nat):Int) * b.bS,((i+1:Nat):Int) * b.b_)/\∀p∈Um a b,(i:Int) * p.2<=p.1) (λi x f M s N=>?_) (λx f s=>?_) ⟨by simp,λp e=>?_⟩ (by omega))
 ·obtain ⟨rfl,t⟩:=s;have m1:=d (i:=i+1) (by omega) l;have m2:=d (i:=i+1) (by omega) m;have m3:=d (i:=i+1) (by omega) n;have m4:=d (i:=i+1) (by omega) q;have r:∀y:Int,((i+1:Nat):Int) * y+y=((i+1+1:Nat):Int) * y:=λy=>by
   rw[show ((i+1+1:Nat):Int)=((i+1:Nat):Int)+1 by omega,yBR,Int.one_mul]
  simp only[show decide ((i:Int)<64)=true by simp;omega,if_true,NM,Option.bind_some,YW,bD,bA,bJ,bb,bV (show i<1000000 by omega)];rw[wr (by omega) (by omega),wr (by omega) (by omega),wr (by omega) (by omega),wr (by omega) (by omega),r,r,r,r];refine ⟨λh=>N _ ⟨rfl,λp e=>?_⟩,λh=>done _ ⟨by omega,by omega,t,λ_=>?_⟩⟩
  ·simp only[Um,me,yB0,or_false] at e;rcases e with rfl | rfl | rfl | rfl
   ·exact h.1.1.1
   ·exact h.1.1.2
   ·exact h.1.2
   ·exact h.2
  ·rw[show ((i:Int)+1)=((i+1:Nat):Int) by omega];by_cases O:a.bP<((i+1:Nat):Int) * b.bP
   ·exact ⟨(a.bP,b.bP),by simp[Um],O⟩
   by_cases S:a.Mem<((i+1:Nat):Int) * b.Mem
   ·exact ⟨(a.Mem,b.Mem),by simp[Um],S⟩
   by_cases T:a.bS<((i+1:Nat):Int) * b.bS
   ·exact ⟨(a.bS,b.bS),by simp[Um],T⟩
   by_cases W:a.b_<((i+1:Nat):Int) * b.b_
   ·exact ⟨(a.b_,b.b_),by simp[Um],W⟩
   exact absurd ⟨⟨⟨by omega,by omega⟩,by omega⟩,by omega⟩ h
 ·obtain ⟨rfl,t⟩:=s;simp only[show decide (((64:Nat):Int)<64)=false from rfl,a_,bn,bA];exact done _ ⟨by omega,by omega,t,λh=>by omega⟩
 ·simp only[Um,me,yB0,or_false] at e;rcases e with rfl | rfl | rfl | rfl <;> simp <;> omega
def xM(s:aU)(l:List Int)(a:aJ):Int:=(l.map λn=>wO ((s.am[n.toNat]?).getD cq) a).sum
theorem Sf{a b:aJ}(d:aX a)(e:aX b):0<=wO a b/\wO a b<=64:=⟨(Hf d e).lo,(Hf d e).hi⟩
theorem EW{s:aU}{g:aJ}(k:aZ s)(r:aX g)(K:g≠cq){l:List Int}(L:l.length<=300)(t:nq l s.am.length)(C:aJ->Option Int)(u:∀a,aX a->C a=some (wO a g)) :
  ca (λ(v:Int×Int->Option Int) (j:Int×Int)=>if (decide (j.2<(l.length:Int)))=true then (aL l j.2).bind λw=>(aL s.am w).bind λz=>(C z).bind λA=>v ((IntKind.i64.wrap (j.1+A)),(IntKind.i64.wrap (j.2+1))) else some j.1) 1000 (0,0)=some (xM s l g):=by
 have E:∀(m:List Int),(∀x∈m,x∈l)->0<=xM s m g/\xM s m g<=64 * m.length:=by
  intro m;induction m with
  |nil=>intro _;simp[xM]
  |cons x m ih=>
   intro h;have F:=ih λy G=>h y (pG _ G);have q:=t.mem x (h x (pe ..));have d:x.toNat<s.am.length:=by omega
   have:=Sf (k.nodes.ok (s.am[x.toNat]) (bR d)) r;simp only[xM,oK,List.sum_cons,dB d,Option.getD_some,List.length_cons] at F ⊢;omega
 refine ce.eq (oe l.length (λi x=>x=(xM s (l.take i) g,(i:Int))) (λi x f n d p=>?_) (λx f d=>?_) (by simp[xM]) (by omega))
 ·subst d;have q:=t.mem l[i] (bR n);obtain ⟨d,e⟩:=ey q.1 q.2;have c:=Sf (k.nodes.ok (s.am[l[i].toNat]) (bR d)) r;have b:=E (l.take i) λx d=>WV d;have M:((l.take i).length:Int)<=300:=by rw[uC];omega
  simp only[cK n,if_true,cj n,Option.bind_some,e,u _ (k.nodes.ok _ (bR d)),bV (show i<1000000 by omega)];rw[wr (by omega) (by omega)];refine p _ ?_;congr 1;rw[OI n];simp only[xM,Wv,oK,List.map_nil,yBM,List.sum_cons,List.sum_nil,dB d,Option.getD_some];omega
 ·subst d;simp only[cM,a_,bn,bA,DO]
theorem uz{s:aU}(hs:d_ s)(k:aZ s){q m:Int}{d:aJ}(f:aX d)(g:d≠cq):∃b,Bx 1000 s q m d=some b/\XL 1000 s q m d=some b:=by
 obtain ⟨w,i,t⟩:=pI s hs;have u:=t.2 k;subst u;by_cases l:0<=q/\q<s.ah.length/\1<=m
 ·obtain ⟨v,e⟩:=ey l.1 l.2.1;have h:=k.fq.ok _ (bR v);obtain ⟨n,p⟩:=ey h.part.1 h.part.2;have r:=k.parts.ok _ (bR n);have lp:=hs.part _ (bR n);refine ⟨decide (xM s (s.aQ[s.ah[q.toNat].Part.toNat]) d≥m),?_,?_⟩
  ·simp only[Bx,i,Option.bind_some];rw[if_neg (by simp;omega),e,aE];simp only[zp,i,Option.bind_some];rw[if_neg (by have:=h.part;simp;omega),p,aE];have:=EW k f g (mA lp (by decide)) r.2 (λa=>oC 1000 a d) (λa j=>count j f g);rw[this,aE]
  ·simp only[XL];rw[if_pos (by simp;omega),e,aE];simp only[gq];rw[if_neg (by have:=h.part;simp;omega)];simp only[p,Option.bind_some];have:=EW k f g (mA lp (by decide)) r.2 (λa=>zcJ 1000 a d) (λa j=>PW j f g);rw[this,aE]
 ·refine ⟨false,?_,?_⟩
  ·simp only[Bx,i,Option.bind_some];rw[if_pos (by simp;omega)]
  ·simp only[XL];rw[if_neg (by simp;omega)]
end Go.Plain
end
section
namespace Go.Plain
open Go.Abs
structure yH (j:aF):Prop where
 st:1<=j.State/\j.State<=6
 start:j.Start≠0->3<=j.State
 fin:j.End≠0->5<=j.State
 ok:j.Ok=true->j.State=4∨j.State=5
 kill:j.bG=true->j.State=4∨j.State=6
structure bM (j:aF):Prop where
 id:1<=j.Id/\j.Id<=1048576
 user:0<=j.az/\j.az<=7
 queue:0<=j.Queue/\j.Queue<=7
 AT:1<=j.aD/\j.aD<=64
 cp:aX j.au
 ny:j.au≠cq
 wall:1<=j.aN/\j.aN<=65536
 cw:j.ay.length<=4
 after:∀d∈j.ay,1<=d.aK/\d.aK<=j.Id-1
 version:1<=j.ab/\j.ab<=281474976710656
 born:0<=j.bI/\j.bI<=1099511627776
 start:0<=j.Start/\j.Start<=1099511627776
 fin:0<=j.End/\j.End<=1099511627776
 arr:0<=j.Array/\j.Array<=j.Id
 state:yH j
theorem WA(x:Int):ce (uI 1000 x) λr=>r.toList=[]↔¬(1<=x/\x<=6):=by
 simp only[uI,bD,bA,lm];have e:(⟨#[]⟩:ByteArray).toList=[]:=by kernel_rfl
 refine ⟨λh=>?_,λa=>⟨λh=>?_,λd=>⟨λh=>?_,λf=>⟨λh=>?_,λg=>⟨λh=>?_,λi=>⟨λh=>?_,λj=>?_⟩⟩⟩⟩⟩⟩
 ·exact ⟨λq=>absurd q (Dt (by kernel_rfl)),λq=>by omega⟩
 ·exact ⟨λq=>absurd q (Dt (by kernel_rfl)),λq=>by omega⟩
 ·exact ⟨λq=>absurd q (Dt (by kernel_rfl)),λq=>by omega⟩
 ·exact ⟨λq=>absurd q (Dt (by kernel_rfl)),λq=>by omega⟩
 ·exact ⟨λq=>absurd q (Dt (by kernel_rfl)),λq=>by omega⟩
 ·exact ⟨λq=>absurd q (Dt (by kernel_rfl)),λq=>by omega⟩
 ·exact ⟨λ_=>by omega,λ_=>e⟩
theorem Jp(j:aF):dv (gD 1000 j) (yH j):=by
 have e:(⟨#[]⟩:ByteArray).toList=[]:=by kernel_rfl
 simp only[gD,dt];refine (WA j.State).bind λr l=>?_;have no:∀{p:Prop},¬p->(false=true↔p):=λh=>by simp[h]
 rw[bD];refine ⟨λh=>?_,λh=>?_⟩
 ·rw[bA];simp only[e,lm] at h;exact no λk=>l.1 h k.st
 ·simp only[e,lm] at h;have hs:1<=j.State/\j.State<=6:=yBo λg=>h (l.2 g);simp only[PY,Vs,Option.bind_some,a_,bn];have fin:∀Q:Prop,(Q↔((j.Ok=true->j.State=4∨j.State=5)/\(j.bG=true->j.State=4∨j.State=6)->yH j)/\True)->True:=λ_ _=>trivial;have d:(j.Start≠0->3<=j.State)->(j.End≠0->5<=j.State)->ce (if ((j.Ok&&(j.State != 4))&&(j.State != 5))=true then some false else if ((j.bG&&(j.State != 4))&&(j.State != 6))=true then some false else some true) λb=>b=true↔yH j:=λf m=>by
   simp only[bD,bA,bJ,Ak,ne_eq];refine ⟨λq=>no λk=>by have:=k.ok q.1.1;omega,λn=>⟨λq=>no λk=>by have:=k.kill q.1.1;omega,λa=>?_⟩⟩;simp only[KG];refine ⟨hs,f,m,λo=>?_,λo=>?_⟩
   ·exact yBo λg=>n ⟨⟨o,by omega⟩,by omega⟩
   ·exact yBo λg=>a ⟨⟨o,by omega⟩,by omega⟩
  have mid:(j.Start≠0->3<=j.State)->ce (if (j.End != 0)=true then (if (!((j.State == 5) || (j.State == 6)))=true then some false else if ((j.Ok&&(j.State != 4))&&(j.State != 5))=true then some false else if ((j.bG&&(j.State != 4))&&(j.State != 6))=true then some false else some true) else if ((j.Ok&&(j.State != 4))&&(j.State != 5))=true then some false else if ((j.bG&&(j.State != 4))&&(j.State != 6))=true then some false else some true) λb=>b=true↔yH j:=λf=>by
   rw[bD];refine ⟨λq=>?_,λq=>d f λi=>absurd i (by simpa using q)⟩;rw[bD];refine ⟨λa=>?_,λa=>d f λ_=>?_⟩
   ·rw[bA];simp only[Ak,ne_eq,ic,yBF,beq_eq_false_iff_ne] at q a;exact no λk=>by have:=k.fin q;omega
   ·simp only[ic,yBF,beq_eq_false_iff_ne] at a;omega
  rw[bD];refine ⟨λq=>?_,λq=>mid λi=>absurd i (by simpa using q)⟩;rw[bD];refine ⟨λa=>?_,λa=>mid λ_=>?_⟩
  ·rw[bA];simp only[Ak,ne_eq,dW,lm] at q a;exact no λk=>by have:=k.start q;omega
  ·simp only[dW,lm] at a;omega
theorem zd(j:aF):dv (Qy 1000 j) (bM j):=by
 have no:∀{p:Prop},¬p->ce (some false) (λb=>b=true↔p):=λh=>by rw[bA];simp[h]
 simp only[Qy,KH,Option.bind_some];have a:∀{m n x:Int}{o:Option Bool}{P:Prop},(P->m<=x/\x<=n)->(m<=x/\x<=n->ce o λb=>b=true↔P)->ce (if (decide (m<=x)&&decide (x<=n))=true then o else some false) λb=>b=true↔P:=λq l=>by rw[bD];simp only[bJ,bb];exact ⟨λh=>l h,λh=>no λp=>h (q p)⟩
 refine a (λk=>k.id) λc1=>a (λk=>k.user) λE=>a (λk=>k.queue) λF=>a (λk=>k.AT) λG=>?_;refine (Mk j.au).bind λr w=>?_;rw[bD];refine ⟨λh=>?_,λh=>no λk=>h ?_⟩
 rotate_left
 ·have K:aJ.beq j.au cq=false:=by
   cases h:aJ.beq j.au cq with
   |false=>rfl
   |true=>exact absurd (dD.1 h) k.ny
  rw[w.2 k.cp];change (true&&!(aJ.beq j.au cq))=true;rw[K];rfl
 simp only[bJ,ic] at h;have L:=w.1 h.1;have s:j.au≠cq:=λe=>by have l:aJ.beq j.au cq=false:=h.2;rw[dD.2 e] at l;cases l
 refine a (λk=>k.wall) λM=>?_;have g:dv (hD 1000 j) (j.ay.length<=4/\∀d∈j.ay,1<=d.aK/\d.aK<=j.Id-1):=by
  simp only[hD,bD,bA,KH,Option.bind_some];refine ⟨λh=>?_,λh=>?_⟩
  ·simp only[bb] at h;simp only[a_,AP];exact λk=>by omega
  ·simp only[bb] at h;refine Oc j.ay (λd=>1<=d.aK/\d.aK<=j.Id-1) _ (λk=>k.2) (λi f y Q q l=>?_) (λf N=>?_) (by omega)
   ·simp only[cK y,if_true,cj y,Option.bind_some,bV (show i<1000000 by omega),bD,bA,ic,yBk,Ux];rw[wr (by omega) (by omega)];exact ⟨λe=>l (by omega),λe=>q (by omega)⟩
   ·simp only[cM,a_,bn,bA,KG];exact ⟨by omega,N⟩
 refine g.bind λT z=>?_;rw[bD];refine ⟨λh=>?_,λh=>no λk=>h (z.2 ⟨k.cw,k.after⟩)⟩;have A:=z.1 h;refine a (λk=>k.version) λO=>a (λk=>k.born) λS=>a (λk=>k.start) λt=>a (λk=>k.fin) λu=>a (λk=>k.arr) λv=>?_;refine (Jp j).bind λrs hs=>?_;rw[bA,hs];exact ⟨λk=>⟨c1,E,F,G,L,s,M,A.1,A.2,O,S,t,u,v,k⟩,λk=>k.state⟩
theorem nR(j:aF)(F:j.ay.length<=10):dv (Vo 1000 j) (bM j):=by
 simp only[Vo,dt,Ox,Option.bind_some];refine Oc j.ay (λd=>1<=d.aK/\d.aK<=IntKind.i64.wrap (j.Id-1)) _ (λk d hd=>by have:=k.after d hd;have:=k.id;rw[wr (by omega) (by omega)];omega) (λi f m Q a n=>?_) (λf q=>?_) (by omega)
 ·simp only[cK m,if_true,cj m,Option.bind_some,bV (show i<1000000 by omega),bD,bA,ic,yBk,Ux];exact ⟨λe=>n (by omega),λe=>a (by omega)⟩
 ·simp only[cM,a_,bn];obtain ⟨G,r,a⟩:=kP j.au;simp only[r,Option.bind_some];have no:∀{p:Prop},¬p->(False↔p):=λh=>by simp[h]
  simp only[if_true,bn,bD,bA,bb,ic,yBk,Ux,bJ,a_,oN,Ak,ne_eq,dW,lm];refine ⟨λc=>no λk=>by have:=k.cw;omega,λK=>⟨λc=>no λk=>by have:=k.id;omega,λc1=>⟨λc=>no λk=>by have:=k.user;omega,λL=>⟨λc=>no λk=>by have:=k.queue;omega,λM=>⟨λc=>no λk=>by have:=k.AT;omega,λN=>⟨λc=>no λk=>(by have:=a.2 k.cp;rw[c] at this;cases this),λs=>?_⟩⟩⟩⟩⟩⟩;have v:=a.1 s;have t:NM 1000 j.au ({ bP:=0,Mem:=0,bS:=0,b_:=0 }:aJ)=some (decide (j.au=cq)):=zj v;simp only[if_true,bn,t,Option.bind_some,bD,bA,bb,ic,yBk,Ux,bJ,a_,oN,Ak,ne_eq,dW,lm];refine ⟨λc=>no λk=>k.ny c,λu=>⟨λc=>no λk=>by have:=k.wall;omega,λO=>⟨λc=>no λk=>by have:=k.state.st;omega,λS=>⟨λc=>no λk=>by have:=k.version;omega,λT=>⟨λc=>no λk=>by have:=k.arr;omega,λw=>⟨λc=>no λk=>by have:=k.born;omega,λx=>⟨λc=>no λk=>by have:=k.start;omega,λy=>⟨λc=>no λk=>by have:=k.fin;omega,λz=>⟨λc=>no λk=>by have:=k.state.start;omega,λA=>⟨λc=>no λk=>by have:=k.state.fin;omega,λE=>⟨λg=>?_,λc=>no λk=>c ?_⟩⟩⟩⟩⟩⟩⟩⟩⟩⟩⟩
  ·constructor
   ·intro l;refine ⟨by omega,by omega,by omega,by omega,v,u,by omega,by omega,λd hd=>?_,by omega,by omega,by omega,by omega,by omega,⟨by omega,by omega,by omega,λo=>?_,λo=>?_⟩⟩
    ·have:=q d hd;rw[wr (by omega) (by omega)] at this;exact this
    ·rcases g with (c | c) | c
     ·rw[o] at c;cases c
     ·exact .inl c
     ·exact .inr c
    ·rcases l with (c | c) | c
     ·rw[o] at c;cases c
     ·exact .inl c
     ·exact .inr c
   ·intro k;cases hk:j.bG with
    |false=>exact .inl (.inl rfl)
    |true=>
     rcases k.state.kill hk with c | c
     ·exact .inl (.inr c)
     ·exact .inr c
  ·cases hk:j.Ok with
   |false=>exact .inl (.inl rfl)
   |true=>
    rcases k.state.ok hk with c | c
    ·exact .inl (.inr c)
    ·exact .inr c
end Go.Plain
end
section
namespace Go.Plain
open Go.Abs
section
variable{X R:Type}{b:(X->Option R)->X->Option R}{Q:R->Prop}
theorem lpM(I:X->Prop)(m:X->Nat)(hs:∀x f,I x->(∀d,I d->m d<m x->ce (f d) Q)->ce (b f x) Q){a:X}(g:I a){N:Nat}(i:m a<N):ce (ca b N a) Q:=by
 induction N generalizing a with
 |zero=>omega
 |succ N ih=>exact hs a _ g λd e h=>ih e (by omega)
end
theorem mid{i j:Nat}(h:i+j<1000000):IntKind.i64.wrap (Int.fdiv (IntKind.u64.wrap (IntKind.i64.wrap ((i:Int)+(j:Int)))) (2 ^ 1))=(((i+j) / 2:Nat):Int):=by
 rw[wr (x:=(i:Int)+(j:Int)) (by omega) (by omega)];have a:IntKind.u64.wrap ((i:Int)+(j:Int))=(i:Int)+(j:Int):=by simp only[IntKind.wrap,IntKind.bits,IntKind.signed];simp;omega
 rw[a,Int.fdiv_eq_ediv_of_nonneg _ (by decide)];have:((i:Int)+(j:Int)) / 2 ^ 1=(((i+j) / 2:Nat):Int):=by omega
 rw[this,wr (by omega) (by omega)]
def bm(l:List aF):Prop:=∀i (h:i+1<l.length),l[i].Id<l[i+1].Id
theorem bm.lt{l:List aF}(h:bm l):∀{i j:Nat}(s:i<j)(x:j<l.length),l[i].Id<l[j].Id:=by
 intro i j s x;induction j with
 |zero=>omega
 |succ j ih=>
  have z:=h j x;rcases O_ (Vw.1 s) with u | u
  ·have:=ih u (by omega);omega
  ·subst u;exact z
theorem bm.inj{l:List aF}(h:bm l){i j:Nat}(u:i<l.length)(x:j<l.length)(e:l[i].Id=l[j].Id):i=j:=by
 rcases yBv i j with s | s | s
 ·have:=h.lt s x;omega
 ·exact s
 ·have:=h.lt s u;omega
structure At (l:List aF) (id:Int) (r:Int):Prop where
 lo:0<=r
 hi:r.toNat<l.length
 is:l[r.toNat].Id=id
theorem At.mem{l:List aF}{id r:Int}(h:At l id r):∃j∈l,j.Id=id:=⟨l[r.toNat]'h.hi,bR _,h.is⟩
theorem At.LJ{l:List aF}{id r j:Int}(hs:bm l)(h:At l id r)(i:At l id j):r=j:=by have:=hs.inj h.hi i.hi (by rw[h.is,i.is]);have:=h.lo;have:=i.lo;omega
theorem half{l:List aF}(w:l.length<=300)(hs:bm l)(id:Int){R:Type}{Q:R->Prop}(C:aF->Option Bool)(s:∀j∈l,C j=some (decide (j.Id<id)))(E:Int->Option R)
  (t:∀i:Nat,i<=l.length->(∀k (h:k<l.length),k<i->l[k].Id<id)->(∀k (h:k<l.length),i<=k->id<=l[k].Id)->ce (E (i:Int)) Q) :
  ∀ (b : (Int × Int -> Option R) -> Int × Int -> Option R), (∀ f x, b f x = if decide (x.1 < x.2) = true then (aL l (IntKind.i64.wrap (Int.fdiv (IntKind.u64.wrap (IntKind.i64.wrap (x.1 + x.2))) (2 ^ 1)))).bind λa => (C a).bind λc => if c = true then f ((IntKind.i64.wrap ((IntKind.i64.wrap (Int.fdiv (IntKind.u64.wrap (IntKind.i64.wrap (x.1 + x.2))) (2 ^ 1))) + 1)), x.2) else f (x.1, (IntKind.i64.wrap (Int.fdiv (IntKind.u64.wrap (IntKind.i64.wrap (x.1 + x.2))) (2 ^ 1)))) else E x.1) ->
   ce (ca b 1000 (0,(l.length:Int))) Q:=by
 intro b u;refine lpM (λx=>∃i j:Nat,x=((i:Int),(j:Int))/\i<=j/\j<=l.length/\(∀k (h:k<l.length),k<i->l[k].Id<id)/\(∀k (h:k<l.length),j<=k->id<=l[k].Id)) (λx=>(x.2-x.1).toNat) (λx f v m=>?_) ⟨0,l.length,rfl,by omega,by omega,λk h hk=>by omega,λk h hk=>by omega⟩ (by dsimp only;omega);obtain ⟨i,j,rfl,y,n,p,r⟩:=v;rw[u,bD];dsimp only;refine ⟨λh=>?_,λh=>?_⟩
 ·simp only[bb] at h;rw[mid (by omega)];have g:(i+j) / 2<l.length:=by omega
  rw[cj g,aE,s _ (bR g),aE,bD];refine ⟨λe=>?_,λe=>?_⟩
  ·simp only[bb] at e;rw[bV (by omega)];refine m _ ⟨(i+j) / 2+1,j,rfl,by omega,n,λk hk d=>?_,r⟩ (by dsimp only;omega);rcases O_ (Vw.1 d) with q | q
   ·have:=hs.lt q g;omega
   ·subst q;exact e
  ·simp only[bb] at e;refine m _ ⟨i,(i+j) / 2,rfl,by omega,by omega,p,λk hk d=>?_⟩ (by dsimp only;omega);rcases O_ d with q | q
   ·have:=hs.lt q hk;omega
   ·subst q;omega
 ·simp only[bb] at h;have:i=j:=by omega
  subst this;exact t i n p r
theorem Oi{l:List aF}(n:l.length<=300)(hs:bm l){id:Int}(p:0<=id/\id<=1048576)(g:∀j∈l,0<=j.Id/\j.Id<=1048576):ce (lW 1000 l id) λr=>(r.2=true↔∃j∈l,j.Id=id)/\(r.2=true->At l id r.1):=by
 simp only[lW,zaB];rw[lM];refine half n hs id (λj=>some (decide (IntKind.i64.wrap (j.Id-id)<0))) (λj d=>?_) (λi=>if (decide (i<(l.length:Int)))=true then (aL l i).bind λs=>(gB 1000 s id).bind λt=>some (i,(t == 0)) else some (i,false)) (λi v m u=>?_) _ (λf x=>rfl)
 ·have:=g j d;rw[wr (by omega) (by omega)];congr 1;rw[yB8];simp only[bb];omega
 ·rw[bD];refine ⟨λh=>?_,λh=>?_⟩
  ·simp only[bb] at h;have a:i<l.length:=by omega
   have:=g _ (bR a);rw[cj a,aE];simp only[gB,Option.bind_some,bA,lm];rw[wr (by omega) (by omega)];refine ⟨⟨λe=>⟨_,bR a,by omega⟩,λ⟨j,d,e⟩=>?_⟩,λe=>⟨by omega,by simpa using a,by simp;omega⟩⟩;obtain ⟨k,hk,rfl⟩:=pD d;rcases yBv k i with q | q | q
   ·have:=m k hk q;omega
   ·subst q;omega
   ·have:=hs.lt q hk;have:=u i a (by omega);omega
  ·simp only[bb] at h;simp only[bA,a_,AP,false_implies,Qa];rintro ⟨j,d,e⟩;obtain ⟨k,hk,rfl⟩:=pD d;have:=m k hk (by omega);omega
theorem oB{l:List aF}(g:l.length<=300)(id:Int):ce (Fv 1000 l id) λr=>(0<=r↔∃j∈l,j.Id=id)/\(0<=r->At l id r)/\(r<0->r=-1):=by
 simp only[Fv];refine uK l (λ_ j=>j.Id≠id) (λi f h _ a=>?_) (λf h=>?_) (by omega)
 ·simp only[cK h,if_true,cj h,Option.bind_some,bV (show i<1000000 by omega),bD,bA,lm];exact ⟨λe=>⟨⟨λ_=>⟨_,bR h,e⟩,λ_=>by omega⟩,λ_=>⟨by omega,by simpa using h,by simpa using e⟩,λh=>by omega⟩,λe=>a e⟩
 ·simp only[cM,a_,bn,bA];refine ⟨⟨λh=>by omega,λ⟨j,d,e⟩=>absurd e (AQ (A:=λj=>j.Id≠id) h j d)⟩,λh=>by omega,λ_=>trivial⟩
structure Ba (l:List lz) (n:Int) (i:Nat) (x:lz):Prop where
 up:KP (l.map (·.Node)) i<x.Node
 lt:x.Node<n
 lo:1<=x.aD
 hi:x.aD<=64
def bK(l:List lz)(n:Int):Prop:=∀i (h:i<l.length),Ba l n i l[i]
theorem bK.node{l:List lz}{n:Int}(h:bK l n):nq (l.map (·.Node)) n:=λi j=>by rw[A_] at j;rw[Ll];exact ⟨(h i j).up,(h i j).lt⟩
theorem bK.mem{l:List lz}{n:Int}(h:bK l n):∀x∈l,0<=x.Node/\x.Node<n/\1<=x.aD/\x.aD<=64:=λx j=>by have s:=h.node.mem x.Node (jJ.2 ⟨x,j,rfl⟩);obtain ⟨i,z,rfl⟩:=pD j;have u:=h i z;exact ⟨s.1,s.2,u.lo,u.hi⟩
theorem Bu{l:List lz}{i:Nat}(h:i<l.length):KP (l.map (·.Node)) (i+1)=l[i].Node:=by rw[tR (by simpa using h),Ll]
theorem Ap(l:List lz)(n:Int)(s:l.length<=300):dv (jR 1000 l n) (bK l n):=by
 simp only[jR];refine oe l.length (λi x=>x=(KP (l.map (·.Node)) i,(i:Int))/\∀j (d:j<l.length),j<i->Ba l n j l[j]) (λi x f a e p=>?_) (λx f e=>?_) ⟨rfl,λj d h=>by omega⟩ (by omega)
 ·obtain ⟨rfl,g⟩:=e;simp only[cK a,if_true,cj a,Option.bind_some,bV (show i<1000000 by omega),bD,bA,dW,bb];refine ⟨λh=>?_,λh=>p _ ⟨by rw[Bu a],λj d k=>?_⟩⟩
  ·simp only[a_,AP];intro r;have q:=r i a;have t:=q.up;have u:=q.lt;have v:=q.lo;have w:=q.hi;omega
  ·rcases O_ (Vw.1 k) with m | m
   ·exact g j d m
   ·subst m;exact ⟨by omega,by omega,by omega,by omega⟩
 ·obtain ⟨rfl,g⟩:=e;simp only[cM,a_,bn,bA,KG];exact λi a=>g i a a
theorem Fp(l:List lz)(n:Int)(u:l.length<=300):dv (zbD 1000 l n) (bK l n):=by
 simp only[zbD,dt];refine uK l (λi a=>Ba l n i a) (λi f h v e=>?_) (λf h=>?_) (by omega)
 ·have hd:decide ((i:Int) > 0)=decide (0<i):=by simp
  simp only[cK h,if_true,cj h,Option.bind_some,bV (show i<1000000 by omega),bD,bA,bb,hd,a_,bn];have bad:¬(Ba l n i l[i])->(False↔bK l n):=λg=>by simp only[AP];exact λd=>g (d i h)
  refine ⟨λj=>?_,λj=>⟨λp=>bad λk=>by have:=k.lt;omega,λp=>⟨λq=>bad λk=>by have:=k.lo;omega,λq=>⟨λr=>bad λk=>by have:=k.hi;omega,λr=>⟨λs=>?_,λs=>?_⟩⟩⟩⟩⟩
  ·simp only[AP];intro d;have:=(d.mem _ (bR h)).1;omega
  ·obtain ⟨m,rfl⟩:∃m,i=m+1:=⟨i-1,by omega⟩;rw[wp1 (show m+1<1000000 by omega),cj (show m<l.length by omega)];simp only[Option.bind_some,bD,bb,bA,a_];exact ⟨λt=>bad λk=>by have:=k.up;rw[Bu (by omega)] at this;omega,λt=>e ⟨by rw[Bu (by omega)];omega,by omega,by omega,by omega⟩⟩
  ·have:i=0:=by omega
   subst this;exact e ⟨by simp only[KP];omega,by omega,by omega,by omega⟩
 ·simp only[cM,a_,bn,bA,KG];exact h
def rF(l:List lz):Int:=(l.map (·.aD)).sum
theorem RX{l:List lz}(h:∀x∈l,1<=x.aD/\x.aD<=64):0<=rF l/\rF l<=64 * l.length:=by
 induction l with
 |nil=>simp[rF]
 |cons x l ih=>have:=ih λy a=>h y (pG _ a);have:=h x (pe ..);simp only[rF,oK,List.sum_cons,List.length_cons] at *;omega
theorem Ks{l:List lz}{i:Nat}(h:i<l.length):rF (l.take (i+1))=rF (l.take i)+l[i].aD:=by rw[OI h];simp only[rF,Wv,oK,List.map_nil,yBM,List.sum_cons,List.sum_nil];omega
theorem JM{l:List lz}{n:Int}(j:l.length<=300)(h:bK l n):ni 1000 l=some (rF l):=by
 simp only[ni];refine ce.eq (oe l.length (λi x=>x=(rF (l.take i),(i:Int))) (λi x f d a e=>?_) (λx f a=>?_) (by simp[rF]) (by omega))
 ·subst a;have q:=h.mem _ (bR d);have b:=RX (l:=l.take i) λx a=>(h.mem x (WV a)).2.2;have k:((l.take i).length:Int)<=300:=by rw[uC];omega
  have g:zfe 1000 l[i].aD 0 64=some l[i].aD:=by simp only[zfe];rw[if_neg (by simp;omega),if_neg (by simp;omega)]
  simp only[cK d,if_true,cj d,Option.bind_some,g,bV (show i<1000000 by omega)];rw[wr (by omega) (by omega)];exact e _ (by rw[Ks d])
 ·subst a;simp only[cM,a_,bn,bA,DO]
theorem Qr{l:List lz}{n:Int}(g:l.length<=300)(h:bK l n):zdQ 1000 l=some (rF l):=by
 simp only[zdQ,dt];refine ce.eq (oe l.length (λi x=>x=(rF (l.take i),(i:Int))) (λi x f d a e=>?_) (λx f a=>?_) (by simp[rF]) (by omega))
 ·subst a;have q:=h.mem _ (bR d);have b:=RX (l:=l.take i) λx a=>(h.mem x (WV a)).2.2;have j:((l.take i).length:Int)<=300:=by rw[uC];omega
  simp only[cK d,if_true,cj d,Option.bind_some,bV (show i<1000000 by omega)];rw[if_neg (by simp;omega),if_pos (by simp;omega),wr (by omega) (by omega)];exact e _ (by rw[Ks d])
 ·subst a;simp only[cM,a_,bn,bA,DO]
theorem to(l:List Int)(g:l.length<=300)(x:Int):dv (zbw 1000 l x) (x∈l):=by
 simp only[dv,zbw,zd8];rw[lM];refine uK l (λ_ y=>x≠y) (λi f h _ a=>?_) (λf h=>?_) (by omega)
 ·simp only[cK h,if_true,cj h,Option.bind_some,bV (show i<1000000 by omega),bD,lm];refine ⟨λe=>?_,λe=>a e⟩;simp only[bA,bb];exact ⟨λ_=>by rw[e];exact bR h,λ_=>by omega⟩
 ·simp only[cM,a_,bn,bA,bb];exact ⟨λh=>by omega,λd=>absurd rfl (AQ (A:=λy=>x≠y) h x d)⟩
theorem OO(l:List Int)(g:l.length<=300)(x:Int):dv (zdz 1000 l x) (x∈l):=by
 simp only[zdz];refine uK l (λ_ y=>y≠x) (λi f h _ a=>?_) (λf h=>?_) (by omega)
 ·simp only[cK h,if_true,cj h,Option.bind_some,bV (show i<1000000 by omega),bD,lm,bA,KG];exact ⟨λe=>by rw[<-e];exact bR h,λe=>a e⟩
 ·simp only[cM,a_,bn,bA,AP];exact λd=>absurd rfl (AQ (A:=λy=>y≠x) h x d)
structure HL (s:aU) (j:aF) (l:List lz):Prop where
 shares:bK l s.am.length
 tot:rF l=j.aD
 q:0<=j.Queue/\j.Queue<s.ah.length
 part:∀x∈l,x.Node∈(s.aQ[((s.ah[j.Queue.toNat]?).getD default).Part.toNat]?).getD []
theorem Sz{s:aU}(hs:d_ s)(k:aZ s)(j:aF)(l:List lz)(q:l.length<=300):dv (mV 1000 s j l) (HL s j l):=by
 have no:∀{p:Prop},¬p->ce (some false) (λb=>b=true↔p):=λh=>by rw[bA];simp[h]
 simp only[mV,dt];refine (Ap l _ q).bind λr a=>?_;rw[bD];refine ⟨λh=>?_,λh=>?_⟩
 ·simp only[if_true];exact no λk=>by have:=a.2 k.shares;rw[this] at h;cases h
 ·simp only[ic,oN] at h;have S:=a.1 h;rw[JM q S,aE,bD];refine ⟨λg=>no λk=>by have:=k.tot;simp[this] at g,λg=>?_⟩;have y:rF l=j.aD:=by simpa using g
  rw[bD];refine ⟨λm=>no λk=>by have:=k.q;simp at m;omega,λm=>?_⟩;have n:0<=j.Queue/\j.Queue<s.ah.length:=by simp at m;omega
  obtain ⟨d,e⟩:=ey n.1 n.2;have t:=k.fq.ok _ (bR d);obtain ⟨u,z⟩:=ey t.part.1 t.part.2;have lp:=hs.part _ (bR u);have v:(s.aQ[((s.ah[j.Queue.toNat]?).getD default).Part.toNat]?).getD []=s.aQ[s.ah[j.Queue.toNat].Part.toNat]:=by rw[dB d];simp only[Option.getD_some];rw[dB u];rfl
  rw[e,aE,z,aE];refine Oc l (λx=>x.Node∈s.aQ[s.ah[j.Queue.toNat].Part.toNat]) _ (λk x d=>by rw[<-v];exact k.part x d) (λi f w Q A E=>?_) (λf F=>?_) (by omega)
  ·simp only[cK w,if_true,cj w,Option.bind_some,bV (show i<1000000 by omega)];refine (to _ (mA lp (by decide)) _).bind λr a=>?_;simp only[bD,bA,ic,oN];exact ⟨λe=>E (by rw[<-a,e];simp),λe=>A (a.1 e)⟩
  ·simp only[cM,a_,bn,bA,KG];exact ⟨S,y,n,by rw[v];exact F⟩
theorem Uh{s:aU}(hs:d_ s)(k:aZ s)(j:aF)(l:List lz)(n:l.length<=300):dv (zej 1000 s j l) (HL s j l):=by
 have no:∀{p:Prop},¬p->ce (some false) (λb=>b=true↔p):=λh=>by rw[bA];simp[h]
 simp only[zej,dt];refine (Fp l _ n).bind λr a=>?_;rw[bD];refine ⟨λh=>?_,λh=>?_⟩
 ·simp only[if_true];exact no λk=>by have:=a.2 k.shares;rw[this] at h;cases h
 ·simp only[ic,oN] at h;have S:=a.1 h;rw[Qr n S,aE,bD];refine ⟨λg=>no λk=>by have:=k.tot;have:=k.q;simp at g;omega,λg=>?_⟩;have q:rF l=j.aD/\0<=j.Queue/\j.Queue<s.ah.length:=by simp at g;omega
  have m:=q.2;obtain ⟨d,e⟩:=ey m.1 m.2;have t:=k.fq.ok _ (bR d);obtain ⟨u,y⟩:=ey t.part.1 t.part.2;have lp:=hs.part _ (bR u);have v:(s.aQ[((s.ah[j.Queue.toNat]?).getD default).Part.toNat]?).getD []=s.aQ[s.ah[j.Queue.toNat].Part.toNat]:=by rw[dB d];simp only[Option.getD_some];rw[dB u];rfl
  rw[e,aE,y,aE];refine Oc l (λx=>x.Node∈s.aQ[s.ah[j.Queue.toNat].Part.toNat]) _ (λk x d=>by rw[<-v];exact k.part x d) (λi f w Q z A=>?_) (λf E=>?_) (by omega)
  ·simp only[cK w,if_true,cj w,Option.bind_some,bV (show i<1000000 by omega)];refine (OO _ (mA lp (by decide)) _).bind λr a=>?_;simp only[bD,bA,ic,oN];exact ⟨λe=>A (by rw[<-a,e];simp),λe=>z (a.1 e)⟩
  ·simp only[cM,a_,bn,bA,KG];exact ⟨S,q.1,m,by rw[v];exact E⟩
end Go.Plain
end
section
namespace Go.Plain
open Go.Abs
def cmp:Nat->aJ->Int
 |0,r=>r.bP
 |1,r=>r.Mem
 |2,r=>r.bS
 |_,r=>r.b_
theorem Bs{r:aJ}:aX r↔∀c,0<=cmp c r/\cmp c r<=1048576:=by
 constructor
 ·intro h c
  match c with
  |0=>exact h.Av
  |1=>exact h.mem
  |2=>exact h.Br
  |_+3=>exact h.BH
 ·intro h;exact ⟨h 0,h 1,h 2,h 3⟩
theorem yy{a b:aJ}(h:∀c,cmp c a=cmp c b):a=b:=by obtain ⟨i,j,k,l⟩:=a;obtain ⟨m,n,p,q⟩:=b;have d:=h 0;have e:=h 1;have f:=h 2;have g:=h 3;simp only[cmp] at d e f g;subst d e f g;rfl
def Pq(a b:aJ):aJ:={ bP:=a.bP-b.bP,Mem:=a.Mem-b.Mem,bS:=a.bS-b.bS,b_:=a.b_-b.b_ }
def Lo(a b:aJ):aJ:={ bP:=a.bP+b.bP,Mem:=a.Mem+b.Mem,bS:=a.bS+b.bS,b_:=a.b_+b.b_ }
def mulR(n:Int)(a:aJ):aJ:={ bP:=n * a.bP,Mem:=n * a.Mem,bS:=n * a.bS,b_:=n * a.b_ }
theorem gh(c:Nat)(a b:aJ):cmp c (Pq a b)=cmp c a-cmp c b:=by match c with | 0=>rfl | 1=>rfl | 2=>rfl | _+3=>rfl
theorem kG(c:Nat)(a b:aJ):cmp c (Lo a b)=cmp c a+cmp c b:=by match c with | 0=>rfl | 1=>rfl | 2=>rfl | _+3=>rfl
theorem DP(c:Nat)(n:Int)(a:aJ):cmp c (mulR n a)=n * cmp c a:=by match c with | 0=>rfl | 1=>rfl | 2=>rfl | _+3=>rfl
theorem nf{a:Int}(h:a.natAbs<2 ^ 53):yO a=some a:=by unfold yO;rw[if_pos h]
theorem zE{a b c d:Int}(g:a.natAbs<2 ^ 53)(i:b.natAbs<2 ^ 53)(j:c.natAbs<2 ^ 53)(hd:d.natAbs<2 ^ 53) :
  ce (ZC 1000 (a,b) (c,d)) λr=>(r.2=0↔aX ⟨a,b,c,d⟩)/\(r.2=0->r.1=⟨a,b,c,d⟩):=by
 simp only[ZC,gE,nf g,nf i,nf j,nf hd,Option.bind_some];refine (Mk _).bind λr f=>?_;simp only[bD,bA,ic,oN];refine ⟨λe=>⟨⟨λh=>by omega,λv=>by have:=f.2 v;rw[e] at this;cases this⟩,λh=>by omega⟩,λe=>⟨⟨λ_=>f.1 e,λ_=>trivial⟩,λ_=>trivial⟩⟩
theorem dL{n x:Int}(a:0<=n/\n<=64)(d:0<=x/\x<=1048576):0<=n * x/\n * x<=67108864:=by have e:0<=n * x:=yBV a.1 d.1;have f:n * x<=64 * x:=ZQ a.2 d.1;omega
theorem Ca{a:aJ}{n:Int}(d:aX a)(m:1<=n/\n<=64):ce (fN 1000 a n) λr=>(r.2=0↔aX (mulR n a))/\(r.2=0->r.1=mulR n a):=by
 simp only[fN];obtain ⟨p,i,j⟩:=Mk a;have k:=j.2 d;subst k;have e:0<=n/\n<=64:=by omega
 simp only[i,Option.bind_some,zM,yBB];rw[if_neg (by simp;omega)];by_cases g:a=cq
 ·subst g;rw[if_pos (by exact dD.2 rfl),bA];have:mulR n cq=cq:=by simp[mulR,cq]
  rw[this];exact ⟨⟨λ_=>⟨by simp[cq],by simp[cq],by simp[cq],by simp[cq]⟩,λ_=>rfl⟩,λ_=>rfl⟩
 ·rw[if_neg (show ¬(aJ.beq a ({ bP:=0,Mem:=0,bS:=0,b_:=0 }:aJ)=true) from λh=>g (dD.1 h)),if_neg (by simp;omega)];have f:∀{x:Int},0<=x/\x<=1048576->qz x n=some (x * n):=λ{x} q=>by unfold qz;rw[if_pos (by omega)]
  have s:=dL e d.Av;have t:=dL e d.mem;have u:=dL e d.Br;have v:=dL e d.BH;simp only[Vv,Option.bind_some,f d.Av,f d.mem,f d.Br,f d.BH];rw[YV a.bP n,YV a.Mem n,YV a.bS n,YV a.b_ n];refine (zE (by omega) (by omega) (by omega) (by omega)).bind λr l=>?_;rw[bA];exact l
theorem sub_ok{a b:aJ}(d:aX a)(e:aX b):ce (Bp 1000 a b) λr=>(r.2=0↔aX (Pq a b))/\(r.2=0->r.1=Pq a b):=by
 simp only[Bp,dt];obtain ⟨n,g,h⟩:=Mk a;have i:=h.2 d;subst i;obtain ⟨p,j,k⟩:=Mk b;have l:=k.2 e;subst l;have f:∀{x y:Int},0<=x/\x<=1048576->0<=y/\y<=1048576->vW x y=some (x-y):=λ{x y} q s=>by unfold vW;rw[if_pos (by omega)]
 simp only[g,j,Option.bind_some,zM,a_,bn,Vv,f d.Av e.Av,f d.mem e.mem,f d.Br e.Br,f d.BH e.BH];have:=d.Av;have:=d.mem;have:=d.Br;have:=d.BH;have:=e.Av;have:=e.mem;have:=e.Br;have:=e.BH;refine (zE (by omega) (by omega) (by omega) (by omega)).bind λr m=>?_;rw[bA];exact m
def dZ(l:List lz)(i:Int):Int:=(l.map λx=>if x.Node=i then x.aD else 0).sum
theorem py{l:List lz}{k:Nat}(h:k<l.length)(i:Int):dZ (l.take (k+1)) i=dZ (l.take k) i+if l[k].Node=i then l[k].aD else 0:=by rw[OI h];simp only[dZ,Wv,oK,List.map_nil,yBM,List.sum_cons,List.sum_nil];omega
theorem zJ{l:List lz}(h:∀x∈l,0<=x.aD)(i:Int):0<=dZ l i:=by
 induction l with
 |nil=>simp[dZ]
 |cons x l ih=>have:=ih λy a=>h y (pG _ a);have:=h x (pe ..);simp only[dZ,oK,List.sum_cons] at *;split <;> omega
theorem YU{l m:List lz}(i:Int):dZ (l++m) i=dZ l i+dZ m i:=by simp[dZ]
theorem Li{l:List lz}(h:∀x∈l,0<=x.aD)(k:Nat)(i:Int):dZ (l.take k) i<=dZ l i:=by have:=YU (l:=l.take k) (m:=l.drop k) i;rw[List.take_append_drop] at this;have:=zJ (l:=l.drop k) (λx a=>h x (List.mem_of_mem_drop a)) i;omega
theorem Bt{l:List lz}{n:Int}(h:bK l n)(i:Int):0<=dZ l i/\dZ l i<=64:=by
 refine ⟨zJ (λx g=>by have:=h.mem x g;omega) i,?_⟩;have d:∀k,k<=l.length->(dZ (l.take k) i<=64/\(dZ (l.take k) i≠0->i<=KP (l.map (·.Node)) k)):=by
  intro k;induction k with
  |zero=>intro _;simp[dZ]
  |succ k ih=>
   intro hk;obtain ⟨j,f⟩:=ih (by omega);have s:=h k (by omega);have s1:=s.up;have m:=s.lt;have p:=s.lo;have q:=s.hi;rw[py (by omega),Bu (show k<l.length by omega)];split
   ·rename_i e;by_cases a:dZ (l.take k) i=0
    ·rw[a];omega
    ·have:=f a;omega
   ·rename_i e;rw[CQ];exact ⟨j,λa=>by have:=f a;omega⟩
 have:=(d l.length (cT _)).1
 rwa [DO] at this
theorem KZ{l:List lz}{n:Int}(m:l.length<=300)(h:bK l n)(i:Int):zeh 1000 l i=some (dZ l i):=by
 simp only[zeh,dt];refine ce.eq (oe l.length (λk x=>x=(dZ (l.take k) i,(k:Int))) (λk x f d a j=>?_) (λx f a=>?_) (by simp[dZ]) (by omega))
 ·subst a;have q:=h.mem _ (bR d);have b:=zJ (l:=l.take k) (λx a=>by have:=h.mem x (WV a);omega) i;have p:=Li (λx a=>by have:=h.mem x a;omega) k i;have r:=Bt h i;have e:=py d i;simp only[cK d,if_true,cj d,Option.bind_some,bV (show k<1000000 by omega),bD,lm];refine ⟨λg=>?_,λg=>j _ ?_⟩
  ·rw[if_pos g] at e;rw[wr (by omega) (by omega)];exact j _ (by rw[e])
  ·rw[if_neg g] at e;rw[e,CQ]
 ·subst a;simp only[cM,a_,bn,bA,DO]
def yR(a:bp)(i:Nat)(r:aJ):aJ:=Pq r (mulR (dZ a.an i) a.au)
def Al(F:List aJ)(a:bp):Prop:=∀i (h:i<F.length),aX (yR a i F[i])
structure BP (F:List aJ) (a:bp) (G:List aJ):Prop where
 len:G.length=F.length
 at':∀i (h:i<G.length),G[i]=yR a i (F[i]'(by rw[<-len];exact h))
theorem Pt{a:bp}{F:List aJ}(hF:F.length<=300)(hl:a.an.length<=300)(W:bK a.an F.length)(K:aX a.au)(hv:∀r∈F,aX r) :
  ce (zbM 1000 a F) λr=>(r.2=0↔Al F a)/\(r.2=0->BP F a r.1):=by
 simp only[zbM,zaO,jk (show F.length<=1000000 by omega),Option.bind_some];have nn:∀x∈a.an,0<=x.aD:=λx t=>by have:=W.mem x t;omega
 refine oe a.an.length (λk x=>x.1=(k:Int)/\x.2.length=F.length/\(∀r∈x.2,aX r)/\∀i (h:i<x.2.length) (m:i<F.length),x.2[i]=Pq F[i] (mulR (dZ (a.an.take k) i) a.au)) (λk x f hk t hr=>?_) (λx f t=>?_) ⟨rfl,rfl,hv,λi h m=>?_⟩ (by omega)
 ·obtain ⟨x1,G⟩:=x;obtain ⟨rfl,d,g,j⟩:=t;dsimp only at d g j ⊢;have q:=W.mem _ (bR hk);have L:a.an[k].Node.toNat<G.length:=by omega
  have z:a.an[k].Node.toNat<F.length:=by omega
  have M:((a.an[k].Node.toNat:Nat):Int)=a.an[k].Node:=by omega
  have tk:=py hk a.an[k].Node;rw[if_pos rfl] at tk;have le:=Li nn (k+1) a.an[k].Node;have n0:=zJ (l:=a.an.take k) (λx t=>nn x (WV t)) a.an[k].Node;have N:=j _ L z;rw[M] at N;have bad:(∃c,cmp c G[a.an[k].Node.toNat]-a.an[k].aD * cmp c a.au<0)->¬Al F a:=λ⟨c,A⟩ E=>by have O:=Bs.1 (E _ z) c;rw[yR,gh,DP,M] at O;rw[N,gh,DP] at A;have u:0<=cmp c a.au:=(Bs.1 K c).1;have h3:(dZ (a.an.take k) a.an[k].Node+a.an[k].aD) * cmp c a.au<=dZ a.an a.an[k].Node * cmp c a.au:=ZQ (by omega) u;rw[yBR] at h3;omega
  simp only[cK hk,if_true,cj hk,Option.bind_some,bV (show k<1000000 by omega)];refine (Ca K q.2.2).bind λr w=>?_;simp only[bD,bA,Ak,ne_eq,HH];refine ⟨λh=>⟨⟨λm=>absurd m h,λE=>?_⟩,λm=>absurd m h⟩,λh=>?_⟩
  ·exfalso;refine bad ?_ E;have n:¬aX (mulR a.an[k].aD a.au):=λv=>h (w.1.2 v);rw[Bs] at n;obtain ⟨c,A⟩:=yBG.1 n;refine ⟨c,?_⟩;rw[DP] at A;have O:=dL (show 0<=a.an[k].aD/\a.an[k].aD<=64 by omega) (Bs.1 K c);have u:=Bs.1 (g _ (bR L)) c;omega
  ·have e1:=w.2 h;have v1:=w.1.1 h;obtain ⟨ad,e⟩:=ey (l:=G) (x:=a.an[k].Node) (by omega) (by omega);rw[e,aE,e1];refine (sub_ok (g _ (bR L)) v1).bind λr2 y=>?_;simp only[Option.bind_some,bD,bA,Ak,ne_eq,HH];refine ⟨λm=>⟨⟨λu=>absurd u m,λE=>?_⟩,λu=>absurd u m⟩,λm=>?_⟩
   ·exfalso;refine bad ?_ E;have n:¬aX (Pq G[a.an[k].Node.toNat] (mulR a.an[k].aD a.au)):=λv=>m (y.1.2 v);rw[Bs] at n;obtain ⟨c,A⟩:=yBG.1 n;refine ⟨c,?_⟩;rw[gh,DP] at A;have O:=dL (show 0<=a.an[k].aD/\a.an[k].aD<=64 by omega) (Bs.1 K c);have u:=Bs.1 (g _ (bR L)) c;omega
   ·have Y:=y.2 m;have v2:=y.1.1 m;refine hr _ ⟨rfl,by simpa using d,λr p=>?_,λi S T=>?_⟩
    ·dsimp only at p;rcases Vr p with p | rfl
     ·exact g r p
     ·rw[Y];exact v2
    ·dsimp only at S ⊢;rw[SU] at S;rw[List.getElem_set];have s:=py hk (i:Int);split
     ·rename_i Z;subst Z;rw[Y,N];rw[if_pos M.symm] at s;rw[s];refine yy λc=>?_;rw[gh,gh,gh,DP,DP,DP,yBR,M];omega
     ·rename_i Z;rw[if_neg (by omega),CQ] at s;rw[j i S T,s]
 ·obtain ⟨x1,G⟩:=x;obtain ⟨rfl,d,g,j⟩:=t;dsimp only at d g j ⊢;simp only[cM,a_,bn,bA,DO,KG,true_implies] at j ⊢;refine ⟨λi h=>?_,d,λi h=>j i h (by omega)⟩;have:=g _ (bR (show i<G.length by omega));rw[j i (by omega) h] at this;exact this
 ·refine yy λc=>?_;rw[gh,DP];simp[dZ]
theorem zG{a:bp}(h:a.an.length<=1000000):fJ 1000 a=some a:=by simp only[fJ,zbA,jk h,Option.bind_some]
structure Ms (M:List (Int×bp)) (F:List aJ) (a:bp):Prop where
 Au:1<=a.aK/\a.aK<=1048576
 some':a.an≠[]
 shares:bK a.an F.length
 cp:aX a.au
 free:bT M a.aK=none
 fits:Al F a
theorem No{M:List (Int×bp)}{a:bp}{F:List aJ}(l:F.length<=300)(g:a.an.length<=300)(m:∀r∈F,aX r) :
  ce (zbt 1000 M a F) λr=>(r.2.1=0↔Ms M F a)/\(r.2.1=0->r.1=dy M a.aK a/\BP F a r.2.2):=by
 simp only[zbt,dt,if_true,a_,bn];have no:∀{p:Prop}{x:List (Int×bp)×Int×List aJ}{q:Prop},¬p->x.2.1≠0->ce (some x) (λr=>(r.2.1=0↔p)/\(r.2.1=0->r.1=dy M a.aK a/\BP F a r.2.2)):=λ{p x q} n i=>by rw[bA];exact ⟨⟨λh=>absurd h i,λh=>absurd h n⟩,λh=>absurd h i⟩
 rw[bD];refine ⟨λh=>?_,λh=>?_⟩
 ·simp only[dW,bb,lm] at h;refine no (q:=True) (λt=>?_) (by simp);have:=t.Au;rcases h with h | h
  ·omega
  ·exact t.some' (VD (by omega))
 ·simp only[dW,bb,lm,not_or] at h;refine (Ap _ _ g).bind λr j=>?_;rw[bD];refine ⟨λe=>no (q:=True) (λt=>by have:=j.2 t.shares;rw[this] at e;cases e) (by simp),λe=>?_⟩;simp only[ic,oN] at e;have S:=j.1 e;refine (Mk a.au).bind λu f=>?_;rw[bD];refine ⟨λe=>no (q:=True) (λt=>by have:=f.2 t.cp;rw[this] at e;cases e) (by simp),λe=>?_⟩;simp only[ic,oN] at e;have V:=f.1 e;cases k:bT M a.aK with
  |some v=>exact no (q:=True) (λt=>by have:=t.free;rw[k] at this;cases this) (by simp)
  |none=>
   simp only[KK];refine (Pt l g S V m).bind λw d=>?_;rw[bD];refine ⟨λe=>?_,λe=>?_⟩
   ·simp only[Ak,ne_eq] at e;exact no (q:=True) (λt=>e (d.1.2 t.fits)) e
   ·simp only[Ak,ne_eq,HH] at e;rw[zG (by omega),aE,bA];refine ⟨⟨λ_=>⟨by omega,λs=>?_,S,V,k,d.1.1 e⟩,λ_=>rfl⟩,λ_=>⟨rfl,d.2 e⟩⟩;rw[s] at h;simp at h
end Go.Plain
end
section
namespace Go.Plain
open Go.Abs
theorem cy{p:Prop}(h:¬p):ce (some false) (λb=>b=true↔p):=by rw[bA];simp[h]
theorem oP{p:Prop}(h:p):ce (some true) (λb=>b=true↔p):=by rw[bA];simp[h]
structure M_ (s:aU) (st:bj):Prop where
 now:0<=st.bF/\st.bF<=1099511627776
 next:1<=st.Next/\st.Next<=s.eJ+1
 book:1<=st.aO/\st.aO<=281474976710656
theorem LA{s:aU}(k:aZ s)(st:bj):dv (jb 1000 s st) (M_ s st):=by have f:=k.ids;simp only[jb,Zj,Option.bind_some,dv];rw[wr (x:=s.eJ+1) (by omega) (by omega)];simp only[bD,bA,bJ,bb,a_,AP];exact ⟨λa=>⟨λd=>⟨λe=>⟨a,d,e⟩,λh=>h.book⟩,λd h=>d h.next⟩,λa h=>a h.now⟩
def hY(x:Int):Int:=if x=3 then 1 else if x=4 then 2 else if x=5∨x=6 then 3 else 0
theorem tx(x:Int):0<=hY x/\hY x<=3:=by unfold hY;split <;> (try split) <;> (try split) <;> omega
theorem UJ(x:Int):mY 1000 x=some (hY x):=by
 simp only[mY,Vs,Option.bind_some,lm,dW];unfold hY;split
 ·rfl
 ·split
  ·rfl
  ·split <;> rfl
structure kr (s:aU) (st:bj) (j:aF):Prop where
 ok:bM j
 next:j.Id<st.Next
 user:j.az<s.aG
 queue:j.Queue<s.ah.length
 born:j.bI<=st.bF
 start:j.Start<=st.bF
 fin:j.End<=st.bF
 version:j.ab<=s.aB+hY j.State
def HR(l:List aF):Nat->Int
 |0=>0
 |i+1=>((l[i]?).map (·.Id)).getD 0
theorem uJ{l:List aF}{i:Nat}(h:i<l.length):HR l (i+1)=l[i].Id:=by simp[HR,h]
structure cJ (s:aU) (st:bj):Prop where
 len:(st.ae.length:Int)<=s.ae
 each:∀j∈st.ae,kr s st j
 aY:bm st.ae
theorem NE{s:aU}{st:bj}(h:(st.ae.length:Int)<=s.ae)(g:∀i (h:i<st.ae.length),kr s st st.ae[i]/\HR st.ae i<st.ae[i].Id):cJ s st:=
 ⟨h,λj d=>by obtain ⟨i,a,rfl⟩:=pD d;exact (g i a).1,λi a=>by have:=(g (i+1) a).2;rwa [uJ (by omega)] at this⟩
theorem cJ.at'{s:aU}{st:bj}(h:cJ s st)(i:Nat)(j:i<st.ae.length):kr s st st.ae[i]/\HR st.ae i<st.ae[i].Id:=by
 refine ⟨h.each _ (bR j),?_⟩
 match i,j with
 |0,j=>have:=(h.each _ (bR j)).ok.id;simp only[HR];omega
 |i+1,j=>rw[uJ (by omega)];exact h.aY i j
theorem cJ.ids{s:aU}{st:bj}(h:cJ s st):∀j∈st.ae,0<=j.Id/\j.Id<=1048576:=λj i=>by have:=(h.each j i).ok.id;omega
theorem max3{a b c n:Int}:(if c > (if b > a then b else a) then c else (if b > a then b else a)) > n↔a > n∨b > n∨c > n:=by split <;> split <;> omega
theorem YI{s:aU}(k:aZ s){st:bj}(p:dN s st):dv (qo 1000 s st) (cJ s st):=by
 have E:=k.dr;have F:=p.aR;simp only[qo,dt,UJ,Option.bind_some];rw[dv,bD];refine ⟨λh=>cy λq=>?_,λt=>?_⟩
 ·have:=q.len;simp only[bb] at h;omega
 ·simp only[bb] at t;refine oe st.ae.length (λi x=>x=(HR st.ae i,(i:Int))/\∀j (h:j<st.ae.length),j<i->kr s st st.ae[j]/\HR st.ae j<st.ae[j].Id) (λi x f d l u=>?_) (λx f l=>?_) ⟨rfl,λj h g=>by omega⟩ (by omega)
  ·obtain ⟨rfl,m⟩:=l;simp only[cK d,if_true,cj d,Option.bind_some,bV (show i<1000000 by omega)];refine (zd _).bind λr e=>?_;rw[bD];refine ⟨λh=>cy λq=>?_,λh=>?_⟩
   ·have a:=q.at' i d;have v:=e.2 a.1.ok;have G:=a.1.next;have K:=a.2;simp only[v,dW,bb,zM,a_,false_or] at h;omega
   ·simp only[dW,bb,not_or,ic,oN] at h;have a:=e.1 h.1.1;rw[bD];refine ⟨λh=>cy λq=>?_,λw=>?_⟩
    ·have a:=(q.at' i d).1;have:=a.user;have:=a.queue;simp only[dW,bb] at h;omega
    ·simp only[dW,bb,not_or] at w;rw[bD];refine ⟨λh=>?_,λy=>?_⟩
     ·refine cy λq=>?_;have a:=(q.at' i d).1;have:=a.born;have:=a.start;have:=a.fin;simp only[bb,max3] at h;omega
     ·simp only[bb,max3] at y;have L:=tx st.ae[i].State;rw[wr (x:=s.aB+hY _) (by omega) (by omega),bD];refine ⟨λh=>cy λq=>?_,λz=>u _ ⟨by rw[uJ d],λj A n=>?_⟩⟩
      ·have a:=(q.at' i d).1.version;simp only[bb] at h;omega
      ·simp only[bb] at z;rcases O_ (Vw.1 n) with g | g
       ·exact m j A g
       ·subst g;exact ⟨⟨a,by omega,by omega,by omega,by omega,by omega,by omega,by omega⟩,by omega⟩
  ·obtain ⟨rfl,m⟩:=l;simp only[cM,a_,bn];exact oP (NE (by omega) λi d=>m i d d)
structure GA (s:aU) (st:bj) (j:aF):Prop where
 fits:Bx 1000 s j.Queue j.aD j.au=some true
 after:∀d∈j.ay,∃i∈st.ae,i.Id=d.aK
def EX(s:aU)(st:bj)(j:aF):Prop:=j.State<5->GA s st j
theorem Mj{s:aU}(k:aZ s){st:bj}(u:dN s st)(J:cJ s st):dv (jd 1000 s st) (∀j∈st.ae,EX s st j):=by
 have F:=u.aR;simp only[jd,dt,Vs,Option.bind_some];refine Oc st.ae (EX s st) _ (λh=>h) (λi f p Q v x=>?_) (λf h=>?_) (by omega)
 ·simp only[cK p,if_true,cj p,Option.bind_some,bV (show i<1000000 by omega)];have e:=J.each _ (bR p);have z:=e.ok.state.st;rw[bD];refine ⟨λh=>v λhs=>?_,λh=>?_⟩
  ·simp only[dW,lm] at h;omega
  ·simp only[dW,lm,not_or] at h;have hs:st.ae[i].State<5:=by omega
   obtain ⟨b,t,G⟩:=uz u.spec k (q:=st.ae[i].Queue) (m:=st.ae[i].aD) e.ok.cp e.ok.ny;rw[t,aE,bD];refine ⟨λa=>?_,λa=>?_⟩
   ·rw[bA];refine x λw=>?_;have:=(w hs).fits;rw[t] at this;simp only[aw] at this;subst this;simp at a
   ·simp only[ic,oN] at a;subst a;have K:=e.ok.cw;refine uK st.ae[i].ay (λ_ d=>∃j∈st.ae,j.Id=d.aK) (λm g n y A=>?_) (λg y=>?_) (by omega)
    ·simp only[cK n,if_true,cj n,Option.bind_some,bV (show m<1000000 by omega)];have L:=e.ok.after _ (bR n);have E:=e.ok.id;refine (Oi (by omega) J.aY (id:=st.ae[i].ay[m].aK) (by omega) J.ids).bind λr l=>?_;rw[bD];refine ⟨λa=>?_,λa=>A ?_⟩
     ·rw[bA];refine x λw=>?_;have:=l.1.2 ((w hs).after _ (bR n));rw[this] at a;simp at a
     ·simp only[ic,oN] at a;exact l.1.1 a
    ·simp only[cM,a_,bn];exact v λ_=>⟨t,AQ y⟩
 ·simp only[cM,a_,bn];exact oP h
structure UY (s:aU) (st:bj):Prop where
 len:(st.dl.length:Int)=s.aG
 use:∀x∈st.dl,0<=x/\x<=1099511627776
 LM:st.aj.ah.length=s.ah.length
 nodes:0<=st.aj.am/\st.aj.am<=281474976710656
 stamps:∀x∈st.aj.ah,0<=x/\x<=281474976710656
theorem JP(l:List Int)(g:l.length<=300):dv (na 1000 l) (∀x∈l,0<=x/\x<=1099511627776):=by
 simp only[na];refine Oc l (λx=>0<=x/\x<=1099511627776) _ (λh=>h) (λi f a Q d e=>?_) (λf h=>?_) (by omega)
 ·simp only[cK a,if_true,cj a,Option.bind_some,bV (show i<1000000 by omega),bD,bA,dW,bb];exact ⟨λh=>e (by omega),λh=>d (by omega)⟩
 ·simp only[cM,a_,bn];exact oP h
theorem Vh{s:aU}{st:bj}(j:dN s st):dv (nz 1000 s st) (UY s st):=by
 have p:=j.use;have t:=j.stamps;simp only[nz,dt,Zj,Option.bind_some,if_true];rw[dv,bD];refine ⟨λh=>cy λq=>?_,λh=>?_⟩
 ·simp only[Ak,ne_eq] at h;exact h q.len
 ·simp only[Ak,ne_eq,HH] at h;refine (JP st.dl (by omega)).bind λr k=>?_;rw[bD];refine ⟨λa=>cy λq=>?_,λa=>?_⟩
  ·have:=k.2 q.use;rw[this] at a;simp at a
  ·simp only[ic,oN] at a;rw[bD];refine ⟨λe=>cy λq=>?_,λe=>?_⟩
   ·simp only[Ak,ne_eq] at e;have:=q.LM;omega
   ·simp only[Ak,ne_eq,HH] at e;rw[bD];refine ⟨λd=>cy λq=>?_,λd=>?_⟩
    ·simp only[ic,yBk,Ux] at d;have:=q.nodes;omega
    ·simp only[ic,oN,bJ,bb] at d;refine Oc st.aj.ah (λx=>0<=x/\x<=281474976710656) _ (λh=>h.stamps) (λi f l Q m n=>?_) (λf g=>?_) (by omega)
     ·simp only[cK l,if_true,cj l,Option.bind_some,bV (show i<1000000 by omega),bD,bA,ic,yBk,Ux];exact ⟨λh=>n (by omega),λh=>m (by omega)⟩
     ·simp only[cM,a_,bn];exact oP ⟨h,k.1 a,by omega,d,g⟩
theorem VT(l:List Int)(n:Int)(k:l.length<=300):dv (zeU 1000 l n) ((l.length:Int)=n/\∀x∈l,0<=x/\x<=1099511627776):=by
 simp only[zeU,dt];refine Oc l (λx=>0<=x/\x<=1099511627776) _ (λh=>h.2) (λi f a Q g d=>?_) (λf h=>?_) (by omega)
 ·simp only[cK a,if_true,cj a,Option.bind_some,bV (show i<1000000 by omega),bD,bA,bb];exact ⟨λh=>d (by omega),λh=>⟨λj=>d (by omega),λj=>g (by omega)⟩⟩
 ·simp only[cM,a_,bn,bA,lm];exact ⟨λe=>⟨e,h⟩,λe=>e.1⟩
theorem Hz(x:Int):dv (ZP 1000 x) (0<=x/\x<=281474976710656):=by simp only[ZP,dv,bA,bJ,bb,ge_iff_le]
end Go.Plain
end
section
namespace Go.Plain
open Go.Abs
def dE(j:aF):Bool:=(j.State == 3) || (j.State == 4)
theorem X_{j:aF}(h:dE j=true):j.State<5:=by simp only[dE,dW,lm] at h;omega
structure l_ (s:aU) (st:bj) (j:aF) (a:bp):Prop where
 Au:a.aK=j.Id
 cp:a.au=j.au
 xK:HL s j a.an
 now:st.bF<j.Start+j.aN
def mP(F:List aJ)(a:bp):List aJ:=F.mapIdx (yR a)
theorem VH{F:List aJ}{a:bp}:(mP F a).length=F.length:=by simp[mP]
theorem sM{F:List aJ}{a:bp}{i:Nat}(h:i<(mP F a).length):(mP F a)[i]=yR a i (F[i]'(by rwa [VH] at h)):=by simp[mP]
theorem BP.eq{F G:List aJ}{a:bp}(h:BP F a G):G=mP F a:=
 List.ext_getElem (by rw[h.len,VH]) λi j s=>by rw[h.at' i j,sM s]
theorem yS{F:List aJ}{a:bp}(h:Al F a):∀r∈mP F a,aX r:=λr d=>by obtain ⟨i,e,rfl⟩:=pD d;rw[sM e];exact h i _
def dm(s:aU)(st:bj):List aF->List bp->List aJ->Prop
 |[],A,_=>A=[]
 |j::H,A,F=>∃a d,A=a::d/\l_ s st j a/\Al F a/\dm s st H d (mP F a)
def gz(s:aU)(st:bj):Prop:=dm s st (st.ae.filter dE) st.ai s.am
theorem dm.mem{s:aU}{st:bj}{H:List aF}{A:List bp}{F:List aJ}(h:dm s st H A F):∀a∈A,∃j∈H,l_ s st j a:=by
 induction H generalizing A F with
 |nil=>intro a i;rw[show A=[] from h] at i;cases i
 |cons j H ih=>
  obtain ⟨b,E,rfl,u,G,x⟩:=h;intro a i;rcases me.1 i with rfl | i
  ·exact ⟨j,pe ..,u⟩
  ·obtain ⟨k,hk,z⟩:=ih x a i;exact ⟨k,pG _ hk,z⟩
theorem gz.mem{s:aU}{st:bj}(h:gz s st):∀a∈st.ai,∃j∈st.ae,l_ s st j a:=λa i=>by obtain ⟨j,u,x⟩:=dm.mem h a i;exact ⟨j,(S_.1 u).1,x⟩
theorem ES{α:Type}{M:List (Int×α)}{k:Int}{a:α}{d:Int}:bT (dy M k a) d=if k=d then some a else bT M d:=by
 induction M with
 |nil=>simp[dy,bT]
 |cons p M ih=>
  obtain ⟨q,v⟩:=p;simp only[dy];split
  ·rename_i e;subst e;simp only[bT];split <;> rfl
  ·rename_i e;simp only[bT,ih];split
   ·rename_i f;rw[if_neg (by intro g;exact e (by rw[f,g]))]
   ·rfl
theorem zf{s:aU}(hs:d_ s)(k:aZ s):Oj 1000 s=some true:=by obtain ⟨r,e,h⟩:=pI s hs;rw[e,h.2 k]
theorem zP{l:List aJ}(h:l.length<=1000000):zaK 1000 l=some l:=by simp only[zaK,jk h]
theorem BN{s:aU}(hs:d_ s)(k:aZ s):zcH 1000 s=some (.inr ([],s.am)):=by have:=hs.nodes;simp only[zcH,zf hs k,Option.bind_some,zM,a_,bn,zP (show s.am.length<=1000000 by omega)]
theorem Ny{l:List lz}(h:1<=rF l):l≠[]:=λe=>by subst e;simp[rF] at h
structure AInv (s:aU) (st:bj) (i:Nat) (x:(List bp)×Int×(List aJ)×List (Int×bp)):Prop where
 ix:x.2.1=(i:Int)
 iff:gz s st↔dm s st ((st.ae.drop i).filter dE) x.1 x.2.2.1
 len:x.2.2.1.length=s.am.length
 vec:∀r∈x.2.2.1,aX r
 keys:∀q,bT x.2.2.2 q≠none->∃m,∃h:m<st.ae.length,m<i/\st.ae[m].Id=q
 sub:∀a∈x.1,a∈st.ai
 few:x.1.length<=300
theorem CG{s:aU}(k:aZ s){st:bj}(K:dN s st)(J:cJ s st):dv (zel 1000 s st) (gz s st):=by
 have hl:=K.aR;have hn:=K.spec.nodes;unfold zel;rw[BN K.spec k,aE];dsimp only;refine oe st.ae.length (AInv s st) (λi x f L hx hr=>?_) (λx f hx=>?_) ⟨rfl,by simp[gz],rfl,k.nodes.ok,λq h=>absurd rfl h,λa ha=>ha,K.aW⟩ (by omega)
 ·obtain ⟨u,x1,F,M⟩:=x;obtain ⟨w,d,j,p,g,l,t⟩:=hx;dsimp only at w d j p g l t;subst w;rw[yB3 L] at d;have ji:=J.each _ (bR L);have Y:=ji.ok;have up:∀q,(∃m,∃h:m<st.ae.length,m<i/\st.ae[m].Id=q)->∃m,∃h:m<st.ae.length,m<i+1/\st.ae[m].Id=q:=λq ⟨m,h,Z,y⟩=>⟨m,h,by omega,y⟩;simp only[dt,dK,cK L,if_true,cj L,Option.bind_some,bV (show i<1000000 by omega)];rw[bD];refine ⟨λh=>hr _ ⟨rfl,?_,j,p,λq N=>up q (g q N),l,t⟩,λh=>?_⟩
  ·have e:dE st.ae[i]=false:=by simpa[dE] using h
   rw[d,yBN (by simp[e])]
  ·have e:dE st.ae[i]=true:=by simpa only[dE,ic,oN] using h
   rw[yBO e] at d;have ax:=Y.start;have a0:=Y.wall;rw[wr (x:=st.ae[i].Start+st.ae[i].aN) (by omega) (by omega),bD];refine ⟨λZ=>cy λq=>?_,λZ=>?_⟩
   ·obtain ⟨a,O,rfl,z,-⟩:=d.1 q;have:=z.now;simp only[dW,bb,lm,List.length_cons] at Z;omega
   ·simp only[dW,bb,lm,not_or] at Z;cases u with
    |nil=>simp at Z
    |cons a O=>
     have ha:=l a (pe ..);have ad:=K.shares a ha;have ak:aL (a::O) 0=some a:=by unfold aL;rw[if_pos ⟨by omega,by simp only[List.length_cons];omega⟩];rfl
     have sl:slice? (a::O) 1 ((a::O).length:Int)=some O:=by unfold slice?;rw[if_pos ⟨by omega,by simp only[List.length_cons];omega,by omega⟩];simp
     simp only[ak,sl,Option.bind_some];rw[bD];refine ⟨λy=>?_,λy=>?_⟩
     ·refine cy λq=>?_;obtain ⟨a',A,E,z,-⟩:=d.1 q;cases E;have e1:=z.Au;have e2:aJ.beq a.au st.ae[i].au=true:=dD.2 z.cp;rw[e2] at y;simp[e1] at y
     ·simp only[dW,Ak,ne_eq,not_or,HH,ic,oN] at y;have eN:a.au=st.ae[i].au:=dD.1 y.2;refine (Sz K.spec k st.ae[i] a.an (mA ad (by decide))).bind λr af=>?_;rw[bD];refine ⟨λh3=>?_,λh3=>?_⟩
      ·refine cy λq=>?_;obtain ⟨a',A,E,z,-⟩:=d.1 q;cases E;have:=af.2 z.xK;rw[this] at h3;simp at h3
      ·simp only[ic,oN] at h3;have S:=af.1 h3;have P:l_ s st st.ae[i] a:=⟨y.1,eN,S,by omega⟩;have T:Al F a->Ms M F a:=λhf=>⟨by have:=Y.id;omega,Ny (by have:=Y.AT;have:=S.tot;omega),by rw[j];exact S.shares,by rw[eN];exact Y.cp,by
        cases hm:bT M a.aK with
        |none=>rfl
        |some v=>obtain ⟨m,a1,av,a2⟩:=g a.aK (by rw[hm];simp);have:=J.aY.lt av L;omega,hf⟩
       refine (No (M:=M) (a:=a) (F:=F) (by omega) (mA ad (by decide)) p).bind λr2 G=>?_;rw[bD];refine ⟨λW=>cy λq=>?_,λW=>?_⟩
       ·obtain ⟨a',A,E,z,hf,-⟩:=d.1 q;cases E;simp only[Ak,ne_eq] at W;exact W (G.1.2 (T hf))
       ·simp only[Ak,ne_eq,HH] at W;have tk:=G.1.1 W;obtain ⟨eM,bh⟩:=G.2 W;have eF:=bh.eq;refine hr _ ⟨rfl,?_,?_,?_,λq N=>?_,λb hb=>l b (pG _ hb),?_⟩
        ·rw[d];dsimp only;rw[eF];constructor
         ·rintro ⟨a',A,E,z,hf,n⟩;cases E;exact n
         ·intro n;exact ⟨a,O,rfl,P,tk.fits,n⟩
        ·dsimp only;rw[eF,VH,j]
        ·dsimp only;rw[eF];exact yS tk.fits
        ·dsimp only at N;rw[eM,ES] at N;split at N
         ·rename_i e5;exact ⟨i,L,by omega,by rw[<-e5,y.1]⟩
         ·exact up q (g q N)
        ·simp only[List.length_cons] at t;dsimp only;omega
 ·obtain ⟨u,x1,F,M⟩:=x;obtain ⟨w,d,j,p,g,l,t⟩:=hx;dsimp only at w d;subst w;rw[List.drop_length] at d;simp only[cM,a_,bn,bA,lm];rw[d];constructor
  ·intro h;exact VD (by omega)
  ·intro h;rw[show u=[] from h];rfl
end Go.Plain
end
section
namespace Go.Plain
open Go.Abs
structure Mq (n:Int) (b:cg):Prop where
 id:1<=b.Id/\b.Id<=281474976710656
 node:0<=b.Node/\b.Node<n
 lo:0<=b.bE
 span:b.bE<b.To
 hi:b.To<=1099511627776
structure kk (b:cg) (node p q:Int):Prop where
 node:b.Node=node
 span:b.bE<b.To
 pq:p<q
 l:b.bE<q
 r:p<b.To
structure MC (l:List cg) (n:Int) (i:Nat) (b:cg):Prop where
 one:Mq n b
 up:∀x (h:x<l.length),x<i->l[x].Id<b.Id/\¬kk l[x] b.Node b.bE b.To
structure uF (l:List cg) (n:Int):Prop where
 len:l.length<=16
 each:∀i (h:i<l.length),MC l n i l[i]
theorem lQ(l:List cg)(node p q:Int)(k:l.length<=300):dv (WC 1000 l node p q) (∃b∈l,kk b node p q):=by
 simp only[WC];refine uK l (λ_ b=>¬kk b node p q) (λi f a _ d=>?_) (λf h=>?_) (by omega)
 ·simp only[cK a,if_true,cj a,Option.bind_some,bV (show i<1000000 by omega),bD];have e:decide ((if p > l[i].bE then p else l[i].bE)<(if q<l[i].To then q else l[i].To))=true↔l[i].bE<l[i].To/\p<q/\l[i].bE<q/\p<l[i].To:=by
   rw[bb];split <;> split <;> omega
  rw[bJ,e,lm];exact ⟨λh=>oP ⟨_,bR a,⟨h.1,h.2.1,h.2.2.1,h.2.2.2.1,h.2.2.2.2⟩⟩,λh=>d λm=>h ⟨m.node,m.span,m.pq,m.l,m.r⟩⟩
 ·simp only[cM,a_,bn];exact cy λ⟨b,g,j⟩=>AQ (A:=λb=>¬kk b node p q) h b g j
theorem Fh(l:List cg)(node p q:Int)(j:l.length<=300):dv (zcP 1000 l node p q) (∃b∈l,kk b node p q):=by
 simp only[zcP];refine uK l (λ_ b=>¬kk b node p q) (λi f a _ d=>?_) (λf h=>?_) (by omega)
 ·simp only[cK a,if_true,cj a,Option.bind_some,bV (show i<1000000 by omega),bD];simp only[bJ,bb,lm];exact ⟨λh=>oP ⟨_,bR a,⟨h.1.1.1.1,h.1.1.1.2,h.1.1.2,h.1.2,h.2⟩⟩,λh=>d λm=>h ⟨⟨⟨⟨m.node,m.span⟩,m.pq⟩,m.l⟩,m.r⟩⟩
 ·simp only[cM,a_,bn];exact cy λ⟨b,e,g⟩=>AQ (A:=λb=>¬kk b node p q) h b e g
theorem Ij(b:cg)(n:Int):dv (lq 1000 b n) (Mq n b):=by simp only[lq,dv,bA,bJ,bb];exact ⟨λh=>⟨by omega,by omega,by omega,by omega,by omega⟩,λh=>by have:=h.id;have:=h.node;have:=h.lo;have:=h.span;have:=h.hi;omega⟩
theorem WG(b:cg)(n:Int):dv (zeV 1000 b n) (Mq n b):=by simp only[zeV,ZP,Option.bind_some,dv,bD,bA,bJ,bb];refine ⟨λa=>⟨λh=>⟨by omega,by omega,by omega,by omega,by omega⟩,λh=>by have:=h.id;have:=h.node;have:=h.lo;have:=h.span;have:=h.hi;omega⟩,λa=>⟨λh=>by simp at h,λh=>by have:=h.id;omega⟩⟩
theorem lY{α:Type}{l:List α}{i:Nat}(h:i<=l.length):slice? l 0 (i:Int)=some (l.take i):=by unfold slice?;rw[if_pos ⟨by omega,by omega,by omega⟩];simp
theorem UL{l:List cg}{i:Nat}{P:cg->Prop}:(∃b∈l.take i,P b)↔∃x,∃h:x<l.length,x<i/\P l[x]:=by
 constructor
 ·rintro ⟨b,d,hp⟩;obtain ⟨x,a,rfl⟩:=pD d;rw[uC] at a;rw[yBw] at hp;exact ⟨x,by omega,by omega,hp⟩
 ·rintro ⟨x,a,e,hp⟩;have f:x<(l.take i).length:=by rw[uC];omega
  refine ⟨(l.take i)[x],bR f,?_⟩;rw[yBw];exact hp
theorem CB(l:List cg)(n:Int)(z:l.length<=300):dv (lP 1000 l n) (uF l n):=by
 unfold lP;rw[dv,bD];refine ⟨λh=>cy λq=>?_,λh=>?_⟩
 ·have:=q.len;simp only[bb] at h;omega
 ·simp only[bb] at h;refine uK l (λi b=>MC l n i b) (λi f d s y=>?_) (λf s=>?_) (by omega)
  ·have hd:decide ((i:Int) > 0)=decide (0<i):=by simp
   simp only[dt,cK d,if_true,cj d,Option.bind_some,bV (show i<1000000 by omega),hd,lY (Nat.le_of_lt d)];refine (Ij l[i] n).bind λr k=>?_;rw[bD];refine ⟨λp=>cy λq=>?_,λp=>?_⟩
   ·have:=k.2 (q.each i d).one;rw[this] at p;simp at p
   ·simp only[ic,oN] at p;have O:=k.1 p;have fin:(∀x (h:x<l.length),x<i->l[x].Id<l[i].Id)->ce ((WC 1000 (l.take i) l[i].Node l[i].bE l[i].To).bind λr=>if r=true then some false else f ((i+1:Nat):Int)) (λb=>b=true↔uF l n):=λt=>by
     refine (lQ (l.take i) _ _ _ (by rw[uC];omega)).bind λr e=>?_;rw[UL] at e;rw[bD];refine ⟨λg=>cy λq=>?_,λg=>y ⟨O,λx j a=>⟨t x j a,λm=>g (e.2 ⟨x,j,a,m⟩)⟩⟩⟩;obtain ⟨x,j,a,m⟩:=e.1 g;exact ((q.each i d).up x j a).2 m
    rw[bD];refine ⟨λg=>?_,λg=>?_⟩
    ·simp only[bb] at g;obtain ⟨m,rfl⟩:∃m,i=m+1:=⟨i-1,by omega⟩;have u:m<l.length:=by omega
     rw[wp1 (show m+1<1000000 by omega),cj u,aE,bD];refine ⟨λv=>cy λq=>?_,λv=>fin λx j a=>?_⟩
     ·have:=((q.each (m+1) d).up m u (by omega)).1;simp only[bb] at v;omega
     ·simp only[bb] at v;rcases O_ (Vw.1 a) with w | w
      ·have:=((s m u (by omega)).up x j w).1;omega
      ·subst w;omega
    ·simp only[bb] at g;exact fin λx j a=>by omega
  ·simp only[cM,a_,bn];exact oP ⟨by omega,λi d=>s i d⟩
theorem PR{α:Type}{l:List α}{i:Nat}(h:i<l.length):slice? l (i:Int) ((i+1:Nat):Int)=some [l[i]]:=by unfold slice?;rw[if_pos ⟨by omega,by omega,by omega⟩];simp only[Int.toNat_natCast];rw[OI h,List.drop_append_of_le_length (by rw[uC];omega),yBf (by rw[uC];omega)];rfl
theorem RQ(l:List cg)(n:Int)(L:l.length<=300):dv (zdY 1000 l n) (uF l n):=by
 unfold zdY;refine uK l (λi b=>MC l n i b) (λi f d E F=>?_) (λf E=>?_) (by omega)
 ·simp only[dt,cK d,if_true,cj d,Option.bind_some,bV (show i<1000000 by omega)];refine (WG l[i] n).bind λr j=>?_;rw[bD];refine ⟨λk=>cy λq=>?_,λk=>?_⟩
  ·have:=j.2 (q.each i d).one;rw[this] at k;simp at k
  ·simp only[ic,oN] at k;have O:=j.1 k;refine oe i (λx y=>y=(x:Int)/\∀z (h:z<l.length),z<x->l[z].Id<l[i].Id/\¬kk l[z] l[i].Node l[i].bE l[i].To) (λx y g s t G=>?_) (λy g t=>?_) ⟨rfl,λz h p=>by omega⟩ (by omega)
   ·obtain ⟨rfl,u⟩:=t;have a:x<l.length:=by omega
    simp only[cK s,if_true,cj a,Option.bind_some,bV (show x<1000000 by omega)];rw[bD];refine ⟨λv=>cy λq=>?_,λv=>?_⟩
    ·have:=((q.each i d).up x a s).1;simp only[bb] at v;omega
    ·simp only[bb] at v;rw[PR a,aE];refine (Fh [l[x]] _ _ _ (by simp)).bind λr e=>?_;simp only[Kz,exists_eq_left] at e;rw[bD];refine ⟨λw=>cy λq=>((q.each i d).up x a s).2 (e.1 w),λw=>G _ ⟨rfl,λz K A=>?_⟩⟩;rcases O_ (Vw.1 A) with p | p
     ·exact u z K p
     ·subst p;exact ⟨by omega,λm=>w (e.2 m)⟩
   ·obtain ⟨rfl,u⟩:=t;simp only[cM,a_,bn];exact F ⟨O,u⟩
 ·simp only[cM,a_,bn,bA,bb];exact ⟨λh=>⟨by omega,λi d=>E i d⟩,λq=>by have:=q.len;omega⟩
def Oy(st:bj)(a:bp):Prop:=∀j∈st.ae,j.Id=a.aK->∀x∈a.an,∀b∈st.aC,b.Node=x.Node->¬b.bE<j.Start+j.aN
structure xY (s:aU) (st:bj):Prop where
 cI:uF st.aC s.am.length
 live:∀b∈st.aC,b.Id<st.aO/\st.bF<b.To
 Aj:∀a∈st.ai,Oy st a
theorem Iq{s:aU}{st:bj}(E:dN s st)(J:cJ s st)(A:gz s st):dv (gN 1000 s st) (xY s st):=by
 have k:=E.cI;have hj:=E.aR;have ad:=E.aW;unfold gN;refine (CB st.aC _ (by omega)).bind λr v=>?_;rw[bD];refine ⟨λw=>cy λq=>?_,λw=>?_⟩
 ·have:=v.2 q.cI;rw[this] at w;simp at w
 ·simp only[ic,oN] at w;have B:=v.1 w;refine uK st.aC (λi b=>b.Id<st.aO/\st.bF<b.To) (λi f n _ F=>?_) (λf W=>?_) (by omega)
  ·simp only[cK n,if_true,cj n,Option.bind_some,bV (show i<1000000 by omega)];rw[bD];simp only[dW,bb];exact ⟨λh2=>cy λq=>by have:=q.live _ (bR n);omega,λh2=>F (by omega)⟩
  ·simp only[cM,a_,bn];refine uK st.ai (λi a=>Oy st a) (λi f n _ F=>?_) (λf hC=>?_) (by omega)
   ·simp only[cK n,if_true,cj n,Option.bind_some,bV (show i<1000000 by omega)];have G:=bR n;have af:=E.shares _ G;obtain ⟨j,d,P⟩:=A.mem _ G;have p:=J.each j d;have ak:=p.ok.id;have av:=p.ok.start;have jw:=p.ok.wall;refine (Oi (by omega) J.aY (id:=st.ai[i].aK) (by have:=P.Au;omega) J.ids).bind λr2 t=>?_;rw[t.1.2 ⟨j,d,P.Au.symm⟩,if_neg (by simp)];have h:=t.2 (t.1.2 ⟨j,d,P.Au.symm⟩);obtain ⟨K,ax⟩:=r2;dsimp only at h ⊢;obtain ⟨L,e⟩:=ey (l:=st.ae) h.lo (by have:=h.lo;have:=h.hi;omega);have ej:st.ae[K.toNat]=j:=by
     obtain ⟨m,u,rfl⟩:=pD d;have:=J.aY.inj L u (by rw[h.is,P.Au]);subst this;rfl
    rw[ej] at e;rw[e];simp only[Option.bind_some];rw[wr (x:=j.Start+j.aN) (by omega) (by omega)];have pn:=P.now;refine uK st.ai[i].an (λ_ x=>∀b∈st.aC,b.Node=x.Node->¬b.bE<j.Start+j.aN) (λm g u _ hg=>?_) (λg hG=>?_) (by omega)
    ·simp only[cK u,if_true,cj u,Option.bind_some,bV (show m<1000000 by omega)];refine (lQ st.aC _ _ _ (by omega)).bind λr3 z=>?_;rw[bD];refine ⟨λM=>cy λq=>?_,λM=>hg λb k hn hf=>M (z.2 ⟨b,k,?_⟩)⟩
     ·obtain ⟨b,k,Y⟩:=z.1 M;exact q.Aj _ G j d P.Au.symm _ (bR u) b k Y.node Y.l
     ·obtain ⟨y,Z,rfl⟩:=pD k;have:=W y Z;exact ⟨hn,(B.each y Z).one.span,pn,hf,this.2⟩
    ·simp only[cM,a_,bn];refine F λN O S x L b k=>?_;have:N=j:=by
      obtain ⟨m,u,rfl⟩:=pD d;obtain ⟨m',T,rfl⟩:=pD O;have:=J.aY.inj T u (by rw[S,P.Au]);subst this;rfl
     subst this;exact AQ (A:=λx=>∀b∈st.aC,b.Node=x.Node->¬b.bE<N.Start+N.aN) hG x L b k
   ·simp only[cM,a_,bn];exact oP ⟨B,AQ W,AQ hC⟩
structure aI (s:aU) (st:bj):Prop where
 spec:aZ s
 ee:M_ s st
 aR:cJ s st
 waits:∀j∈st.ae,EX s st j
 aW:gz s st
 cE:xY s st
 use:UY s st
theorem Dg{s:aU}{st:bj}(a:dN s st):dv (ju 1000 s st) (aI s st):=by
 unfold ju;have step:∀{o:Option Bool}{P:Prop}{k:Option Bool},dv o P->(aI s st->P)->(P->dv k (aI s st))->dv (o.bind λr=>if r=true then k else some false) (aI s st):=λf d g=>f.bind λr e=>bD.2 ⟨λh=>g (e.1 h),λh=>cy λq=>h (e.2 (d q))⟩
 refine step (pI s a.spec) (λq=>q.spec) λk=>?_;refine step (LA k st) (λq=>q.ee) λf=>?_;refine step (YI k a) (λq=>q.aR) λd=>?_;refine step (Mj k a d) (λq=>q.waits) λg=>?_;refine step (CG k a d) (λq=>q.aW) λi=>?_;refine step (Iq a d i) (λq=>q.cE) λj=>?_;refine (Vh a).bind λr e=>?_;rw[bA,e];exact ⟨λl=>⟨k,f,d,g,i,j,l⟩,λq=>q.use⟩
end Go.Plain
end
