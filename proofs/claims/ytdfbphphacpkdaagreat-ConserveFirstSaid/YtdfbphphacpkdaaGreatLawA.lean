/- TyP1, TyP2, TyP3, TyP4, TyP5, TyP6, TyP7, TyL1, TyL2, TyL3 -/
import Derived.Test.YtdfbphphacpkdaaGreatTyPure
import Derived.KernelRfl
import Derived.Laws.BitsLemmas
set_option linter.all false
open Go.IntKind (i64 u64)
section
namespace Go.Plain
open Go.Abs
instance glT:Gl:={ ok:=λ_ _=>True,mono:=λ_ _=>trivial }
theorem wr{x:Int}(a:-9223372036854775808<=x)(d:x<9223372036854775808):i64.wrap x=x:=by rw[IntKind.wrap_i64];omega
theorem bT{i:Nat}(h:i<1000000):i64.wrap ((i:Int)+1)=((i+1:Nat):Int):=by grind [wr]
theorem wp1{i:Nat}(h:i+1<1000000):i64.wrap (((i+1:Nat):Int)-1)=(i:Int):=by grind [wr]
theorem bW{α:Type}{l:List α}{i:Nat}(h:i<l.length):aB l (i:Int)=some l[i]:=by
 unfold aB
 simp_all
theorem FJ{α:Type}{l:List α}{x:Int}(d:0<=x)(h:x<l.length):∃a:x.toNat<l.length,aB l x=some (l[x.toNat]'a):=by
 have a:x.toNat<l.length:=by omega
 refine ⟨a,?_⟩;unfold aB
 simp_all
theorem cM{i n:Nat}(h:i<n):decide ((i:Int)<(n:Int))=true:=by simp_all
theorem eU{n:Nat}:decide ((n:Int)<(n:Int))=false:=by simp
theorem Ap{α:Type}{l m:List α}(h:l.length+m.length<=1000000):cr l m=some (l++m):=by unfold cr;simp_all
theorem Ft{α:Type}{m:List α}(h:m.length<=1000000):cr [] m=some m:=by grind [Ap]
theorem fQ{X R:Type}(r:X->Option R)(b:(X->Option R)->Option R):jn r b=b r:=rfl
def bL{β:Type}(o:Option β)(Q:β->Prop):Prop:=∃r,o=some r/\Q r
abbrev fY(o:Option Bool)(P:Prop):Prop:=bL o λb=>b=true↔P
section
variable{α β γ σ:Type}{o:Option α}{P Q:α->Prop}
theorem bL.mono(h:bL o P)(i:∀r,P r->Q r):bL o Q:=by obtain ⟨r,j,s⟩:=h;exact ⟨r,j,i r s⟩
theorem bL.bind{f:α->Option β}{R:β->Prop}(h:bL o P)(i:∀r,P r->bL (f r) R):bL (o.bind f) R:=by obtain ⟨r,rfl,j⟩:=h;simp_all
theorem aY{r:α}:bL (some r) Q↔Q r:=by simp[bL]
theorem jD{f:α->Option β}{R:β->Prop}:bL (o.bind f) R↔bL o λr=>bL (f r) R:=by cases o <;> simp[bL]
theorem bo{c:Prop}[Decidable c]{a b:Option α}:bL (if c then a else b) Q↔(c->bL a Q)/\(¬c->bL b Q):=by grind
theorem bL.eq{r:α}(h:bL o λx=>x=r):o=some r:=by obtain ⟨_,h,rfl⟩:=h;exact h
end
section
variable{X R α:Type}{b:(X->Option R)->X->Option R}{Q:R->Prop}
theorem ja(n:Nat)(Inv:Nat->X->Prop)(hs:∀i x f,i<n->Inv i x->(∀d,Inv (i+1) d->bL (f d) Q)->bL (b f x) Q)
  (l:∀x f,Inv n x->bL (b f x) Q) {g:X} (m:Inv 0 g) {N:Nat} (p:n<N):bL (bB b N g) Q:=by
 have:∀k i x,i<=n->n<i+k->Inv i x->bL (bB b k x) Q:=by
  intro k;induction k with
  |zero=>omega
  |succ k ih=>
   intro i x h q j;rcases Xh h with a | rfl
   ·exact hs i x _ a j λd e=>ih (i+1) d a (by omega) e
   ·exact l x _ j
 grind
end
section
variable{R α:Type}{b:(Int->Option R)->Int->Option R}{Q:R->Prop}
theorem xq (l:List α) (A:Nat→α→Prop)
  (hs:∀i (f:Int→Option R) (h:i<l.length),(∀j (a:j<l.length),j<i→A j l[j])→(A i l[i]→bL (f ((i+1:Nat):Int)) Q)→bL (b f (i:Int)) Q)
  (k:∀f,(∀j (a:j<l.length),A j l[j])→bL (b f (l.length:Int)) Q) {N:Nat} (d:l.length<N):bL (bB b N 0) Q:=
 ja l.length (fun i x=>x=(i:Int)∧∀j (a:j<l.length),j<i→A j l[j])
  (fun i x f m ⟨e,g⟩ n=>by
   grind)
  (fun x f ⟨e,g⟩=>by simp_all) ⟨rfl,fun j a h=>absurd h (by omega)⟩ d
end
theorem Cy{α:Type}{l:List α}{A:α->Prop}(h:∀j (d:j<l.length),A l[j]):∀a∈l,A a:=λa e=>by grind [List.getElem_of_mem]
theorem NZ{α:Type}{b:(Int->Option Bool)->Int->Option Bool}(l:List α)(A:α->Prop)(P:Prop)(j:P->∀a∈l,A a)
  (hs:∀(i:Nat)(f:Int->Option Bool)(h:i<l.length)(Q:Bool->Prop),(A l[i]->bL (f ((i+1:Nat):Int)) Q)->(¬A l[i]->Q false)->bL (b f (i:Int)) Q)
  (d:∀f,(∀a∈l,A a)->fY (b f (l.length:Int)) P) {N:Nat} (e:l.length<N):fY (bB b N 0) P:=
 xq l (λ_ a => A a) (λi f h _ g => hs i f h _ g λk => by
   grind)
  (λf h=>d f (Cy h)) e
structure mY (s:bn):Prop where
 nodes:s.am.length<=40
 parts:s.aG.length<=20
 gT:s.aq.length<=20
 part:∀p∈s.aG,p.length<=40
 queue:∀q∈s.aq,q.aR.length<=40
theorem few07(s:bn):bL (zeJ 5000 s) λr=>r=true->mY s:=by
 simp only[zeJ,bo,aY];refine ⟨by simp,λh=>?_⟩;simp only[gp,br,not_or,Int.not_lt] at h;obtain ⟨⟨g,j⟩,k⟩:=h;refine xq s.aG (λ_ q=>q.length<=40) (λi f h _ a=>?_) (λf d=>?_) (by omega)
 ·simp only[cM h,if_true,bW h,Option.bind_some,bT (show i<1000000 by omega),bo,aY,br]
  grind
 ·simp only[eU,bX,cn];refine xq s.aq (λ_ q=>q.aR.length<=40) (λi f h _ a=>?_) (λf e=>?_) (by omega)
  ·simp only[cM h,if_true,bW h,Option.bind_some,bT (show i<1000000 by omega),bo,aY,br]
   grind
  ·simp only[eU,bX,cn,aY];exact λ_=>⟨by omega,by omega,by omega,Cy d,Cy e⟩
theorem few17(l:List aM):bL (zeR 5000 l) λr=>r=true->l.length<=30/\∀j∈l,j.aI.length<=10:=by
 simp only[zeR,bo,aY];refine ⟨by simp,λh=>?_⟩;simp only[br] at h;refine xq l (λ_ q=>q.aI.length<=10) (λi f h _ d=>?_) (λf a=>?_) (by omega)
 ·simp only[cM h,if_true,bW h,Option.bind_some,bT (show i<1000000 by omega),bo,aY,br]
  grind
 ·simp only[eU,bX,cn,aY];exact λ_=>⟨by omega,Cy a⟩
structure lF (s:bn) (st:cw):Prop where
 spec:mY s
 bp:st.aj.length<=300
 after:∀j∈st.aj,j.aI.length<=10
 cf:st.ah.length<=300
 cJ:st.az.length<=20
 use:st.nR.length<=20
 stamps:st.aE.aq.length<=20
 shares:∀a∈st.ah,a.ae.length<=40
theorem lF.sh{s:bn}{st:cw}(h:lF s st):∀a∈st.ah,a.ae.length<=300:=λa i=>lA (h.shares a i) (by decide)
theorem few23(s:bn)(st:cw):bL (zcD 5000 s st) λr=>r=true->lF s st:=by
 simp only[zcD,fQ];refine (few07 s).bind λr d=>?_;simp only[if_true,aY,bo];refine ⟨by simp,λh=>?_⟩;refine (few17 st.aj).bind λk a=>?_;simp only[iF,oh] at h;have g:=d h;simp only[bo,aY];refine ⟨by simp,λh=>?_⟩;simp only[gp,br,not_or,Int.not_lt,iF,oh] at h;obtain ⟨⟨⟨⟨h,l⟩,m⟩,n⟩,p⟩:=h;have e:=a h;refine xq st.ah (λ_ q=>q.ae.length<=40) (λi f h _ d=>?_) (λf j=>?_) (by omega)
 ·simp only[cM h,if_true,bW h,Option.bind_some,bT (show i<1000000 by omega),bo,aY,br]
  grind
 ·simp only[eU,bX,cn,aY];exact λ_=>⟨g,lA e.1 (by decide),e.2,by omega,by omega,by omega,by omega,Cy j⟩
def NN(lo a x:Int):Bool:=decide (lo<=x)&&decide (x<=a)
structure aL (r:aC):Prop where
 Fy:0<=r.bK/\r.bK<=1048576
 mem:0<=r.Mem/\r.Mem<=1048576
 Ir:0<=r.bM/\r.bM<=1048576
 Ka:0<=r.bO/\r.bO<=1048576
theorem zw(r:aC):fY (Zu 5000 r) (aL r):=by simp only[Zu,zb5,aY,Option.bind_some,bo,bG,br,bX,Fe,fY];refine ⟨λa=>⟨λd=>⟨λe=>⟨λf=>⟨a,d,e,f⟩,λh=>h.Ka⟩,λe h=>e h.Ir⟩,λd h=>d h.mem⟩,λa h=>a h.Fy⟩
theorem at4x0{a b c d:Int}:aB [a,b,c,d] 0=some a:=rfl
theorem at4x1{a b c d:Int}:aB [a,b,c,d] 1=some b:=rfl
theorem at4x2{a b c d:Int}:aB [a,b,c,d] 2=some c:=rfl
theorem at4x3{a b c d:Int}:aB [a,b,c,d] 3=some d:=rfl
theorem lpN(l:List Int)(lo d n:Int)(e:(l.length:Int)=n){E:Option Bool}{Q:Bool->Prop}(k:¬(∀a∈l,lo<=a/\a<=d)->Q false)(g:(∀a∈l,lo<=a/\a<=d)->bL E Q)(j:l.length<5000) :
  bL (bB (λ(f:Int->Option Bool) (x:Int)=>if (decide (x<n))=true then (aB l x).bind λy=>if ((decide (y<lo)) || (decide (y > d)))=true then some false else f (i64.wrap (x+1)) else E) 5000 0) Q:=by
 subst e;refine xq l (λ_ a=>lo<=a/\a<=d) (λi f h _ m=>?_) (λf h=>?_) j
 ·simp only[cM h,if_true,bW h,Option.bind_some,bT (show i<1000000 by omega),bo,aY,gp,br]
  grind
 ·simp only[eU,bX,cn];exact g (Cy h)
theorem zn{a b c d lo e:Int}:(∀x∈[a,b,c,d],lo<=x/\x<=e)↔(lo<=a/\a<=e)/\(lo<=b/\b<=e)/\(lo<=c/\c<=e)/\(lo<=d/\d<=e):=by simp
theorem Gc{a b c lo d:Int}:(∀x∈[a,b,c],lo<=x/\x<=d)↔(lo<=a/\a<=d)/\(lo<=b/\b<=d)/\(lo<=c/\c<=d):=by simp
theorem Tu(r:aC):fY (Mm 5000 r) (aL r):=by
 simp only[Mm,fZ,Option.bind_some];refine lpN [r.bK,r.Mem,r.bM,r.bO] 0 1048576 4 rfl (λh=>?_) (λh=>?_) (by simp)
 ·simp only[bX,Fe];exact λv=>h (zn.2 ⟨v.Fy,v.mem,v.Ir,v.Ka⟩)
 ·rw[aY];obtain ⟨a,d,e,f⟩:=zn.1 h;exact ⟨λ_=>⟨a,d,e,f⟩,λ_=>rfl⟩
def bN:aC:={ bK:=0,Mem:=0,bM:=0,bO:=0 }
theorem gC{a b:aC}:aC.beq a b=true↔a=b:=by obtain ⟨d,e,f,g⟩:=a;obtain ⟨h,i,j,k⟩:=b;simp[aC.beq]
end Go.Plain
end
section
namespace Go.Plain
open Go.Abs
def JZ(l:List Int):Nat->Int
 |0=>-1
 |i+1=>l[i]?.getD 0
theorem qw{l:List Int}{i:Nat}(h:i<l.length):JZ l (i+1)=l[i]:=by simp[JZ,h]
def mT(l:List Int)(n:Int):Prop:=∀i (h:i<l.length),JZ l i<l[i]/\l[i]<n
theorem mT.nn{l:List Int}{n:Int}(h:∀i (j:i<l.length),JZ l i<l[i]):∀i (j:i<l.length),0<=l[i]:=by
 intro i;induction i with
 |zero=>grind [JZ]
 |succ i ih=>grind [qw]
theorem mT.mem{l:List Int}{n:Int}(h:mT l n):∀x∈l,0<=x/\x<n:=λx s=>by obtain ⟨i,j,rfl⟩:=km s;exact ⟨mT.nn (n:=n) (λi j=>(h i j).1) i j,(h i j).2⟩
theorem ascending(l:List Int)(n:Int)(q:l.length<99):fY (zeF 5000 l n) (mT l n):=by
 simp only[zeF];refine ja l.length (λi x=>x=(JZ l i,(i:Int))/\∀j (e:j<l.length),j<i->JZ l j<l[j]/\l[j]<n) (λi x f a d k=>?_) (λx f d=>?_) ⟨rfl,λj e h=>by omega⟩ (by omega)
 ·obtain ⟨rfl,g⟩:=d;simp only[cM a,if_true,bW a,Option.bind_some,bT (show i<1000000 by omega),bo,aY,gp,br];refine ⟨λh=>?_,λh=>k _ ⟨by rw[qw a],λj e m=>?_⟩⟩
  ·simp only[bX,Fe];intro p;have:=p i a;omega
  grind
 ·obtain ⟨rfl,g⟩:=d;simp only[eU,bX,cn,aY,OT];exact λi a=>g i a a
theorem DR(l:List Int)(n:Int)(q:l.length<99):fY (zcr 5000 l n) (mT l n):=by
 simp only[zcr,fQ];refine xq l (λi a=>JZ l i<a/\a<n) (λi f h r e=>?_) (λf h=>?_) (by omega)
 ·have hd:decide ((i:Int) > 0)=decide (0<i):=by simp
  simp only[cM h,if_true,bW h,Option.bind_some,bT (show i<1000000 by omega),bo,aY,br,hd,bX,cn];have bad:¬(JZ l i<l[i]/\l[i]<n)->(False↔mT l n):=λg=>by simp only[Fe];exact λd=>g (d i h)
  refine ⟨λj=>?_,λj=>⟨λk=>bad (by omega),λk=>⟨λp=>?_,λp=>?_⟩⟩⟩
  ·simp only[Fe];intro d;have:=(d.mem _ (bE h)).1;omega
  ·obtain ⟨m,rfl⟩:∃m,i=m+1:=⟨i-1,by omega⟩;rw[wp1 (show m+1<1000000 by omega),bW (show m<l.length by omega)];rw[qw (by omega)] at bad e;simp only[Option.bind_some,bo,br,aY,bX]
   simp_all
  grind [JZ]
 ·simp only[eU,bX,cn,aY,OT];exact h
structure ot (s:bn):Prop where
 lo:1<=s.am.length
 hi:s.am.length<=16
 ok:∀r∈s.am,aL r
theorem PX(s:bn):fY (fC 5000 s) (ot s):=by
 simp only[fC,bo,aY];refine ⟨λh=>?_,λh=>?_⟩
 ·simp only[gp,br] at h;simp only[bX,Fe]
  grind [ot.lo,ot.hi]
 ·simp only[gp,br,not_or] at h;refine NZ s.am aL _ (λk=>k.ok) (λi f a Q e g=>?_) (λf d=>?_) (by omega)
  ·simp only[cM a,if_true,bW a,Option.bind_some,bT (show i<1000000 by omega)];refine (Tu _).bind λr j=>?_;simp only[bo,aY,iF,oh]
   grind
  ·simp only[eU,bX,cn,aY,OT];exact ⟨by omega,by omega,d⟩
theorem TM(s:bn)(hs:mY s):fY (zcM 5000 s) (ot s):=by
 have:=hs.nodes;simp only[zcM];refine NZ s.am aL _ (λk=>k.ok) (λi f a Q e g=>?_) (λf d=>?_) (by omega)
 ·simp only[cM a,if_true,bW a,Option.bind_some,bT (show i<1000000 by omega)];refine (zw _).bind λr j=>?_;simp only[bo,aY,iF,oh]
  grind
 ·simp only[eU,bX,cn,Al,Option.bind_some,aY,bG,br];exact ⟨λh=>⟨by omega,by omega,d⟩,λh=>by grind [ot.lo,ot.hi]⟩
structure oO (s:bn):Prop where
 lo:1<=s.aG.length
 hi:s.aG.length<=8
 ok:∀p∈s.aG,1<=p.length/\mT p s.am.length
theorem PW(s:bn)(hs:mY s):fY (fE 5000 s) (oO s):=by
 simp only[fE,fQ,bo,aY];refine ⟨λh=>?_,λh=>?_⟩
 ·simp only[gp,br] at h;simp only[bX,Fe]
  grind [oO.lo,oO.hi]
 ·simp only[gp,br,not_or] at h;refine NZ s.aG (λp=>1<=p.length/\mT p s.am.length) _ (λk=>k.ok) (λi f a Q j d=>?_) (λf g=>?_) (by omega)
  ·have:=hs.part _ (bE a);simp only[cM a,if_true,bW a,Option.bind_some,bT (show i<1000000 by omega),bo,aY,br];refine ⟨λe=>d (by omega),λe=>?_⟩;refine (ascending _ _ (by omega)).bind λr l=>?_;simp only[bo,aY,iF,oh]
   grind
  ·simp only[eU,bX,cn,aY,OT];exact ⟨by omega,by omega,g⟩
theorem Ut(s:bn)(hs:mY s):fY (zcO 5000 s) (oO s):=by
 have:=hs.parts;simp only[zcO,fQ];refine NZ s.aG (λp=>1<=p.length/\mT p s.am.length) _ (λk=>k.ok) (λi f a Q j d=>?_) (λf g=>?_) (by omega)
 ·have:=hs.part _ (bE a);simp only[cM a,if_true,bW a,Option.bind_some,bT (show i<1000000 by omega),bo,aY,br];refine ⟨λe=>d (by omega),λe=>?_⟩;refine (DR _ _ (by omega)).bind λr l=>?_;simp only[bo,aY,iF,oh]
  grind
 ·simp only[eU,bX,cn,Al,Option.bind_some,aY,bG,br];exact ⟨λh=>⟨by omega,by omega,g⟩,λh=>by grind [oO.lo,oO.hi]⟩
structure zW (s:bn) (q:BJ):Prop where
 part:0<=q.Part/\q.Part<s.aG.length
 Ae:mT q.aR s.aR
 bp:1<=q.jx/\q.jx<=256
 run:1<=q.mJ/\q.mJ<=256
 user:1<=q.im/\q.im<=256
 qos:0<=q.fB/\q.fB<=100
structure qx (s:bn):Prop where
 lo:1<=s.aq.length
 hi:s.aq.length<=8
 ok:∀q∈s.aq,zW s q
theorem Mu(s:bn)(hs:mY s):fY (zeM 5000 s) (qx s):=by
 simp only[zeM,fQ,bo,aY];refine ⟨λh=>?_,λh=>?_⟩
 ·simp only[gp,br] at h;simp only[bX,Fe]
  grind [qx.lo,qx.hi]
 ·simp only[gp,br,not_or] at h;refine NZ s.aq (zW s) _ (λk=>k.ok) (λi f a Q l d=>?_) (λf m=>?_) (by omega)
  ·have:=hs.queue _ (bE a);simp only[cM a,if_true,bW a,Option.bind_some,bT (show i<1000000 by omega),bX,cn];rw[bo];refine ⟨λe=>?_,λe=>?_⟩
   ·simp only[gp,br] at e;rw[aY];exact d λk=>by have:=k.part;omega
   ·simp only[gp,br,not_or] at e;refine (ascending _ _ (by omega)).bind λr n=>?_;rw[bo];refine ⟨λg=>?_,λg=>?_⟩
    ·grind [aY,zW.Ae]
    ·simp only[iF,oh] at g;refine lpN [_,_,_] 1 256 3 rfl (λp=>d λk=>p (Gc.2 ⟨k.bp,k.run,k.user⟩)) (λq=>?_) (by simp);obtain ⟨t,u,v⟩:=Gc.1 q;rw[bo];refine ⟨λj=>?_,λj=>?_⟩
     ·simp only[gp,br] at j;rw[aY];exact d λk=>by have:=k.qos;omega
     ·simp only[gp,br,not_or] at j;exact l ⟨by omega,n.1 g,t,u,v,by omega⟩
  ·simp only[eU,bX,cn,aY,OT];exact ⟨by omega,by omega,m⟩
theorem Qd(s:bn)(hs:mY s):fY (zcv 5000 s) (qx s):=by
 have:=hs.gT;simp only[zcv,fQ];refine NZ s.aq (zW s) _ (λk=>k.ok) (λi f d Q j a=>?_) (λf l=>?_) (by omega)
 ·have:=hs.queue _ (bE d);simp only[cM d,if_true,bW d,Option.bind_some,bT (show i<1000000 by omega),bX,cn];rw[bo];refine ⟨λe=>?_,λe=>?_⟩
  ·simp only[gp,br] at e;rw[aY];exact a λk=>by have:=k.part;omega
  ·simp only[gp,br,not_or] at e;refine (DR _ _ (by omega)).bind λr m=>?_;simp only[Al,Option.bind_some,bo,aY,iF,oh,bG,br,yB0,yBf];refine ⟨λg=>a λk=>by grind [zW.Ae],λg=>⟨λn=>a λk=>by have:=k.bp;omega,λn=>⟨λp=>a λk=>by have:=k.run;omega,λp=>⟨λq=>a λk=>by have:=k.user;omega,λq=>⟨λt=>a λk=>by have:=k.qos;omega,λt=>?_⟩⟩⟩⟩⟩;exact j ⟨by omega,m.1 g,by omega,by omega,by omega,by omega⟩
 ·simp only[eU,bX,cn,Al,Option.bind_some,aY,bG,br];exact ⟨λh=>⟨by omega,by omega,l⟩,λh=>by have:=h.lo;have:=h.hi;omega⟩
structure Bc (w:JY):Prop where
 age:0<=w.kN/\w.kN<=1000
 size:0<=w.cK/\w.cK<=1000
 qos:0<=w.fB/\w.fB<=1000
 share:0<=w.bI/\w.bI<=1000
theorem Io(w:JY):fY (zeb 5000 w) (Bc w):=by
 simp only[zeb];refine lpN [w.kN,w.cK,w.fB,w.bI] 0 1000 4 rfl (λh=>?_) (λh=>?_) (by simp)
 ·simp only[bX,Fe];exact λv=>h (zn.2 ⟨v.age,v.size,v.qos,v.share⟩)
 ·rw[aY];obtain ⟨a,d,e,f⟩:=zn.1 h;exact ⟨λ_=>⟨a,d,e,f⟩,λ_=>rfl⟩
structure bm (s:bn):Prop where
 nodes:ot s
 parts:oO s
 Ae:1<=s.aR/\s.aR<=8
 gT:qx s
 weights:Bc s.ai
 decay:1<=s.bR/\s.bR<=16
 mode:s.Mode=1∨s.Mode=2
 bp:1<=s.aj/\s.aj<=256
 ids:1<=s.jX/\s.jX<=1048576
 tS:1<=s.aF/\s.aF<=65536
 VW:0<=s.bg/\s.bg<=65536
 keep:1<=s.cX/\s.cX<=16
 NN:1<=s.In/\s.In<=8
 out:1<=s.Out/\s.Out<=16
 cache:0<=s.bQ/\s.bQ<=16
theorem qS(s:bn)(hs:mY s):fY (PG 5000 s) (bm s):=by
 simp only[PG,AE];obtain ⟨N,z,m⟩:=PX s;obtain ⟨O,A,n⟩:=PW s hs;obtain ⟨S,E,q⟩:=Mu s hs;obtain ⟨U,F,r⟩:=Io s.ai;simp only[z,A,E,F,Option.bind_some];have T:∀(x:ByteArray),x.toList≠[]->(¬bm s)->bL ((some x).bind λa=>some (a.toList == (⟨#[]⟩:ByteArray).toList)) λb=>b=true↔bm s:=λx G W=>by
  rw[aD,aY]
  simp_all
 have step:∀(c:Bool)(x:ByteArray)(o:Option ByteArray),x.toList.isEmpty=false->(c=false->¬bm s)->(c=true->bL (o.bind λa=>some (a.toList == (⟨#[]⟩:ByteArray).toList)) λb=>b=true↔bm s) ->
   bL ((if (!c)=true then some x else o).bind λa=>some (a.toList == (⟨#[]⟩:ByteArray).toList)) λb=>b=true↔bm s:=λc x o G m n=>by
  grind
 have nb:∀{b:Bool}{p:Prop},(b=true↔p)->b=false->¬p:=λh e Y=>by simp_all
 refine step _ _ _ (by kernel_rfl) (λe k=>nb m e k.nodes) λc1=>?_;refine step _ _ _ (by kernel_rfl) (λe k=>nb n e k.parts) λK=>?_;refine step _ _ _ (by kernel_rfl) (λe k=>by grind [bm.Ae]) λt=>?_;refine step _ _ _ (by kernel_rfl) (λe k=>nb q e k.gT) λL=>?_;refine step _ _ _ (by kernel_rfl) (λe k=>nb r e k.weights) λM=>?_;refine step _ _ _ (by kernel_rfl) (λe k=>by grind [bm.decay]) λu=>?_;refine step _ _ _ (by kernel_rfl) (λe k=>by grind [bm.mode]) λv=>?_;refine step _ _ _ (by kernel_rfl) (λe k=>by grind [bm.bp]) λw=>?_;refine step _ _ _ (by kernel_rfl) (λe k=>by grind [bm.ids]) λy=>?_;refine step _ _ _ (by kernel_rfl) (λe k=>by grind [bm.tS]) λd=>?_;refine step _ _ _ (by kernel_rfl) (λe k=>by grind [bm.VW]) λf=>?_;refine step _ _ _ (by kernel_rfl) (λe k=>by grind [bm.keep]) λg=>?_;refine step _ _ _ (by kernel_rfl) (λe k=>by grind [bm.NN]) λi=>?_;refine step _ _ _ (by kernel_rfl) (λe k=>by grind [bm.out]) λj=>?_;refine step _ _ _ (by kernel_rfl) (λe k=>by grind [bm.cache]) λl=>?_;rw[aD,aY];simp only[yBV,OT];simp only[bG,gp,br,my] at t u v w y d f g i j l;exact ⟨m.1 c1,n.1 K,t,q.1 L,r.1 M,u,v,w,y,d,f,g,i,j,l⟩
theorem KU{n:Nat}(hN:15<n){s:bn}{g j m:Bool}(T:zcM n s=some g)(F:g=true↔ot s)(U:zcO n s=some j)(G:j=true↔oO s)(W:zcv n s=some m)(K:m=true↔qx s):fY (zcK n s) (bm s):=by
 simp only[zcK,gP,T,U,W,Option.bind_some,Al,fQ];have d:∀w:Bool,(w=true↔Bc s.ai)->∀(L:List Bool)(M:List ByteArray),L=[g,j,decide (1<=s.aR)&&decide (s.aR<=8),m,w,decide (1<=s.bR)&&decide (s.bR<=16),decide (1<=s.Mode)&&decide (s.Mode<=2),decide (1<=s.aj)&&decide (s.aj<=256),decide (1<=s.jX)&&decide (s.jX<=1048576),decide (1<=s.aF)&&decide (s.aF<=65536),decide (0<=s.bg)&&decide (s.bg<=65536),decide (1<=s.cX)&&decide (s.cX<=16),decide (1<=s.In)&&decide (s.In<=8),decide (1<=s.Out)&&decide (s.Out<=16),decide (0<=s.bQ)&&decide (s.bQ<=16)] ->
   (∀x∈M,x.toList≠[])->M.length=15 ->
   bL ((bB (λ(p:Int->Option ByteArray) (e:Int)=>if (decide (e<15))=true then (aB L e).bind λq=>if (!q)=true then (aB M e).bind λr=>some r else p (i64.wrap (e+1)) else some (⟨#[]⟩:ByteArray)) n 0).bind λY=>some (Y.toList == (⟨#[]⟩:ByteArray).toList)) λb=>b=true↔bm s:=by
  intro w N L M Z hM O;have S:L.length=15:=by simp_all
  have t:(15:Int)=(L.length:Int):=by omega
  have all:(∀x∈L,x=true)↔bm s:=by
   rw[Z];simp only[gn,KE,KR,forall_eq_or_imp,forall_eq,bG,br];constructor
   ·rintro ⟨c1,c2,c3,c4,c5,c6,c7,c8,c9,u,v,y,z,A,E⟩;exact ⟨F.1 c1,G.1 c2,c3,K.1 c4,N.1 c5,c6,by omega,c8,c9,u,v,y,z,A,E⟩
   ·intro k;have:=k.mode;exact ⟨F.2 k.nodes,G.2 k.parts,k.Ae,K.2 k.gT,N.2 k.weights,k.decay,by omega,k.bp,k.ids,k.tS,k.VW,k.keep,k.NN,k.out,k.cache⟩
  rw[jD,t];have nil:(⟨#[]⟩:ByteArray).toList=[]:=by kernel_rfl
  refine xq L (λ_ x=>x=true) (λi f h _ hr=>?_) (λf hA=>?_) (by omega)
  ·simp only[cM h,if_true,bW h,bW (l:=M) (show i<M.length by omega),Option.bind_some,bT (show i<1000000 by omega),bo,aY,iF,oh,nil,my] at hr ⊢
   grind [List.getElem_mem]
  ·simp only[eU,bX,cn,aY,yBV,OT];exact all.1 (Cy hA)
 have a:∀x∈([(⟨#[78,111,100,101,115]⟩:ByteArray),(⟨#[80,97,114,116,115]⟩:ByteArray),(⟨#[85,115,101,114,115]⟩:ByteArray),(⟨#[81,117,101,117,101,115]⟩:ByteArray),(⟨#[87,101,105,103,104,116,115]⟩:ByteArray),(⟨#[68,101,99,97,121]⟩:ByteArray),(⟨#[77,111,100,101]⟩:ByteArray),(⟨#[74,111,98,115]⟩:ByteArray),(⟨#[73,100,115]⟩:ByteArray),(⟨#[86,101,114,115,105,111,110,115]⟩:ByteArray),(⟨#[76,105,110,103,101,114]⟩:ByteArray),(⟨#[75,101,101,112]⟩:ByteArray),(⟨#[73,110]⟩:ByteArray),(⟨#[79,117,116]⟩:ByteArray),(⟨#[67,97,99,104,101]⟩:ByteArray)]:List ByteArray),x.toList≠[]:=by simp_all
 split
 ·rename_i w1;split
  ·rename_i w2;split
   ·rename_i w3;refine d _ ?_ _ _ rfl a rfl;simp only[bG,br] at w1 w2 w3 ⊢;exact ⟨λw4=>⟨w1,w2,w3,w4⟩,λk=>k.share⟩
   ·rename_i w3;refine d _ ?_ _ _ rfl a rfl;simp only[bG,br] at w3;simp only[bX,Fe];exact λk=>w3 k.qos
  ·rename_i w2;refine d _ ?_ _ _ rfl a rfl;simp only[bG,br] at w2;simp only[bX,Fe];exact λk=>w2 k.size
 ·rename_i w1;refine d _ ?_ _ _ rfl a rfl;simp only[bG,br] at w1;simp only[bX,Fe];exact λk=>w1 k.age
theorem Tb(s:bn)(hs:mY s):fY (zcK 5000 s) (bm s):=by
 obtain ⟨a,d,e⟩:=TM s hs;obtain ⟨f,g,h⟩:=Ut s hs;obtain ⟨i,j,k⟩:=Qd s hs
 grind [KU]
end Go.Plain
end
section
namespace Go.Plain
open Go.Abs
structure AU (L:List (Int×Int)) (k:Int):Prop where
 lo:0<=k
 hi:k<=64
 fit:∀p∈L,k * p.2<=p.1
 max:k<64->∃p∈L,p.1<(k+1) * p.2
theorem AU.Bk{L:List (Int×Int)}{k i:Int}(u:∀p∈L,0<=p.2)(h:AU L k)(E:AU L i):k=i:=by
 have x:∀{a b:Int},AU L a->AU L b->¬a<b:=λ{a b} z j A=>by obtain ⟨p,s,F⟩:=z.max (by have:=j.hi;omega);have G:=j.fit p s;have K:(a+1) * p.2<=b * p.2:=yAQ (by omega) (u p s);omega
 grind
theorem AU.nil:AU [] 64:=⟨by omega,by omega,by simp,by simp⟩
def qm(n a b:Int):Int:=if b > 0 then (if a.tdiv b<n then a.tdiv b else n) else n
theorem AU.step{L:List (Int×Int)}{k a b:Int}(h:AU L k)(z:∀p∈L,0<=p.2)(s:0<=a)(K:0<=b):AU (L++[(a,b)]) (qm k a b):=by
 unfold qm;have u:=h.lo;have x:=h.hi;split
 ·rename_i j;rw[Int.tdiv_eq_ediv_of_nonneg s];have M:a / b * b<=a:=Int.ediv_mul_le a (by omega);have A:a<(a / b+1) * b:=Int.lt_ediv_add_one_mul_self a j;have E:0<=a / b:=Int.ediv_nonneg s (by omega);split
  ·rename_i F;refine ⟨E,by omega,λp i=>?_,λ_=>⟨(a,b),by simp,A⟩⟩;rcases mQ.1 i with i | i
   ·have:=h.fit p i;have:a / b * p.2<=k * p.2:=yAQ (by omega) (z p i);omega
   simp_all
  ·rename_i G;refine ⟨u,x,λp i=>?_,λhk=>?_⟩
   ·rcases mQ.1 i with i | i
    ·exact h.fit p i
    ·simp only[Bl] at i;subst i;have:k * b<=a / b * b:=yAQ (by omega) (by omega)
     grind
   ·obtain ⟨p,i,q⟩:=h.max hk
    grind
 ·rename_i j;have:b=0:=by omega
  subst this;refine ⟨u,x,λp i=>?_,λhk=>?_⟩
  ·rcases mQ.1 i with i | i
   ·exact h.fit p i
   simp_all
  ·obtain ⟨p,i,q⟩:=h.max hk
   grind
theorem P_{n a b:Int}(h:b > 0):qm n a b=if a.tdiv b<n then a.tdiv b else n:=by unfold qm;omega
theorem OA{n a b:Int}(h:¬b > 0):qm n a b=n:=by unfold qm;omega
def Fa(a b:aC):List (Int×Int):=[(a.bK,b.bK),(a.Mem,b.Mem),(a.bM,b.bM),(a.bO,b.bO)]
def dG(a b:aC):Int:=qm (qm (qm (qm 64 a.bK b.bK) a.Mem b.Mem) a.bM b.bM) a.bO b.bO
theorem vX{a b:aC}(e:aL a)(d:aL b):AU (Fa a b) (dG a b):=by have f:=AU.nil;have g:=f.step (by simp) e.Fy.1 d.Fy.1;have h:=g.step (by simp;exact d.Fy.1) e.mem.1 d.mem.1;have i:=h.step (by simp;exact ⟨d.Fy.1,d.mem.1⟩) e.Ir.1 d.Ir.1;have j:=i.step (by simp;exact ⟨d.Fy.1,d.mem.1,d.Ir.1⟩) e.Ka.1 d.Ka.1;exact j
theorem w1:i64.wrap (0+1)=1:=rfl
theorem w2:i64.wrap (1+1)=2:=rfl
theorem w3:i64.wrap (2+1)=3:=rfl
theorem w4:i64.wrap (3+1)=4:=rfl
theorem wq{a b:Int}(d:0<=a/\a<=1048576)(e:0<b):MG .i64 a b=some (a.tdiv b):=by
 unfold MG;rw[if_neg (by omega)];have f:0<=a / b:=Int.ediv_nonneg d.1 (by omega);have g:a / b<=a:=Int.ediv_le_self b d.1
 grind [wr]
def stc(a b:aC):Nat->Int
 |0=>64
 |1=>qm 64 a.bK b.bK
 |2=>qm (qm 64 a.bK b.bK) a.Mem b.Mem
 |3=>qm (qm (qm 64 a.bK b.bK) a.Mem b.Mem) a.bM b.bM
 |_=>dG a b
theorem count{a b:aC}(g:aL a)(h:aL b)(q:b≠bN):lZ 5000 a b=some (dG a b):=by
 obtain ⟨r,j,k⟩:=Tu a;obtain ⟨s,l,m⟩:=Tu b;have n:=k.2 g;have p:=m.2 h;subst n p;have d:aC.beq b bN=false:=by grind [gC]
 simp only[lZ,fQ,j,l,Option.bind_some,NE,bX,cn,Bool.false_or,fZ];change (if aC.beq b bN=true then some 0 else _)=_;rw[d];simp only[bX,cn];refine bL.eq (ja 4 (λi x=>x=(stc a b i,(i:Int))) (λi x f t e u=>?_) (λx f e=>?_) rfl (by omega))
 ·subst e;rcases (show i=0∨i=1∨i=2∨i=3 by omega) with rfl | rfl | rfl | rfl
  ·rw[show ((0:Nat):Int)=0 from rfl];simp only[show decide ((0:Int)<4)=true from rfl,if_true,at4x0,Option.bind_some,w1,bo,br]
   grind [stc,qm,wq,aL.Fy]
  ·rw[show ((1:Nat):Int)=1 from rfl];simp only[show decide ((1:Int)<4)=true from rfl,if_true,at4x1,Option.bind_some,w2,bo,br]
   grind [stc,OA,wq,aL.mem,P_]
  ·rw[show ((2:Nat):Int)=2 from rfl];simp only[show decide ((2:Int)<4)=true from rfl,if_true,at4x2,Option.bind_some,w3,bo,br]
   grind [stc,OA,wq,aL.Ir,P_]
  ·rw[show ((3:Nat):Int)=3 from rfl];simp only[show decide ((3:Int)<4)=true from rfl,if_true,at4x3,Option.bind_some,w4,bo,br]
   grind [stc,dG,OA,wq,aL.Ka,P_]
 ·subst e;simp only[show decide (((4:Nat):Int)<4)=false from rfl,bX,cn,aY];rfl
theorem Gh{b:aC}(a:aL b):Pu 5000 b bN=some (decide (b=bN)):=by
 simp only[Pu,au];have:=a.Fy;have:=a.mem;have:=a.Ir;have:=a.Ka;rw[Bool.eq_iff_iff];simp only[bG,br];obtain ⟨d,e,f,g⟩:=b
 grind [bN]
theorem Ao{a b:aC}(j:aL a)(e:aL b)(z:b≠bN):zbp 5000 a b=some (dG a b):=by
 obtain ⟨W,A,u⟩:=zw a;obtain ⟨Y,E,v⟩:=zw b;have F:=u.2 j;have G:=v.2 e;subst F G;simp only[zbp,fQ,A,E,Option.bind_some,NE,bX,cn];have K:Pu 5000 b ({ bK:=0,Mem:=0,bM:=0,bO:=0 }:aC)=some (decide (b=bN)):=Gh e;rw[K];simp only[Option.bind_some,z,decide_false,bX,cn];have Z:=j.Fy;have hm:=j.mem;have hg:=j.Ir;have hl:=j.Ka;have m:=e.Fy;have n:=e.mem;have q:=e.Ir;have r:=e.Ka;have L:∀p∈Fa a b,0<=p.2:=by
  intro p g;simp only[Fa,gn,KE,KR] at g;rcases g with rfl | rfl | rfl | rfl
  ·omega
  ·omega
  ·omega
  omega
 have done:∀k:Int,AU (Fa a b) k->k=dG a b:=λk hk=>hk.Bk L (vX j e);have d:∀{i:Nat}{y:Int},i<=65->0<=y/\y<=1048576->0<=(i:Int) * y/\(i:Int) * y<=68157440:=λ{i y} M w=>by have u:0<=(i:Int) * y:=yBL (by omega) w.1;have v:(i:Int) * y<=65 * y:=yAQ (by omega) w.1;omega
 refine bL.eq (ja 64 (λi x=>x=((i:Int),((i+1:Nat):Int) * b.bK,((i+1:Nat):Int) * b.Mem,((i+1:Nat):Int) * b.bM,((i+1:Nat):Int) * b.bO)/\∀p∈Fa a b,(i:Int) * p.2<=p.1) (λi x f M s N=>?_) (λx f s=>?_) ⟨by simp,λp g=>?_⟩ (by omega))
 ·obtain ⟨rfl,t⟩:=s;have m1:=d (i:=i+1) (by omega) m;have m2:=d (i:=i+1) (by omega) n;have m3:=d (i:=i+1) (by omega) q;have m4:=d (i:=i+1) (by omega) r;have l:∀y:Int,((i+1:Nat):Int) * y+y=((i+1+1:Nat):Int) * y:=λy=>by
   grind
  simp only[show decide ((i:Int)<64)=true by grind,if_true,Pu,Option.bind_some,Xl,bo,aY,bG,br,bT (show i<1000000 by omega)];rw[wr (by omega) (by omega),wr (by omega) (by omega),wr (by omega) (by omega),wr (by omega) (by omega),l,l,l,l];refine ⟨λh=>N _ ⟨rfl,λp g=>?_⟩,λh=>done _ ⟨by omega,by omega,t,λ_=>?_⟩⟩
  ·simp only[Fa,gn,KE,KR] at g;rcases g with rfl | rfl | rfl | rfl
   ·simp_all
   ·simp_all
   ·simp_all
   simp_all
  ·rw[show ((i:Int)+1)=((i+1:Nat):Int) by omega];by_cases O:a.bK<((i+1:Nat):Int) * b.bK
   ·exact ⟨(a.bK,b.bK),by simp[Fa],O⟩
   by_cases S:a.Mem<((i+1:Nat):Int) * b.Mem
   ·exact ⟨(a.Mem,b.Mem),by simp[Fa],S⟩
   by_cases T:a.bM<((i+1:Nat):Int) * b.bM
   ·exact ⟨(a.bM,b.bM),by simp[Fa],T⟩
   by_cases U:a.bO<((i+1:Nat):Int) * b.bO
   ·exact ⟨(a.bO,b.bO),by simp[Fa],U⟩
   omega
 ·obtain ⟨rfl,t⟩:=s;simp only[show decide (((64:Nat):Int)<64)=false from rfl,bX,cn,aY];exact done _ ⟨by omega,by omega,t,λh=>by omega⟩
 ·simp only[Fa,gn,KE,KR] at g
  grind
def By(s:bn)(l:List Int)(need:aC):Int:=(l.map λn=>dG ((s.am[n.toNat]?).getD bN) need).sum
theorem Pt{a b:aC}(d:aL a)(e:aL b):0<=dG a b/\dG a b<=64:=⟨(vX d e).lo,(vX d e).hi⟩
theorem Gu{s:bn}{need:aC}(k:bm s)(p:aL need)(F:need≠bN){l:List Int}(G:l.length<=300)(r:mT l s.am.length)(C:aC->Option Int)(t:∀a,aL a->C a=some (dG a need)) :
  bB (λ(u:Int×Int->Option Int) (g:Int×Int)=>if (decide (g.2<(l.length:Int)))=true then (aB l g.2).bind λv=>(aB s.am v).bind λw=>(C w).bind λz=>u ((i64.wrap (g.1+z)),(i64.wrap (g.2+1))) else some g.1) 5000 (0,0)=some (By s l need):=by
 have A:∀(m:List Int),(∀x∈m,x∈l)->0<=By s m need/\By s m need<=64 * m.length:=by
  intro m;induction m with
  |nil=>grind [By]
  |cons x m ih=>
   intro h;have K:=ih λy E=>h y (oD _ E);have q:=r.mem x (h x (rX ..));have d:x.toNat<s.am.length:=by omega
   have:=Pt (k.nodes.ok (s.am[x.toNat]) (bE d)) p
   grind [By]
 refine bL.eq (ja l.length (λi x=>x=(By s (l.take i) need,(i:Int))) (λi x f j d n=>?_) (λx f d=>?_) (by grind) (by omega))
 ·subst d;have q:=r.mem l[i] (bE j);obtain ⟨d,e⟩:=FJ q.1 q.2;have c:=Pt (k.nodes.ok (s.am[l[i].toNat]) (bE d)) p;have b:=A (l.take i) λx d=>NP d;have L:((l.take i).length:Int)<=300:=by grind
  simp only[cM j,if_true,bW j,Option.bind_some,e,t _ (k.nodes.ok _ (bE d)),bT (show i<1000000 by omega)];rw[wr (by omega) (by omega)];refine n _ ?_;congr 1;rw[Fc j];simp only[By,yB8,tn,List.map_nil,List.sum_append,List.sum_cons,List.sum_nil,eH d,Option.getD_some];omega
 ·subst d;simp only[eU,bX,cn,aY,yh]
theorem Sx{s:bn}(hs:mY s)(k:bm s){q m:Int}{need:aC}(d:aL need)(f:need≠bN):∃b,iZ 5000 s q m need=some b/\zda 5000 s q m need=some b:=by
 obtain ⟨v,h,r⟩:=qS s hs;have t:=r.2 k;subst t;by_cases j:0<=q/\q<s.aq.length/\1<=m
 ·obtain ⟨u,e⟩:=FJ j.1 j.2.1;have g:=k.gT.ok _ (bE u);obtain ⟨l,n⟩:=FJ g.part.1 g.part.2;have p:=k.parts.ok _ (bE l);have lp:=hs.part _ (bE l);refine ⟨decide (By s (s.aG[s.aq[q.toNat].Part.toNat]) need≥m),?_,?_⟩
  ·simp only[iZ,h,Option.bind_some];rw[if_neg (by simp_all),e,aD];simp only[AJ,h,Option.bind_some];rw[if_neg (by have:=g.part;simp;omega),n,aD];have:=Gu k d f (lA lp (by decide)) p.2 (λa=>lZ 5000 a need) (λa i=>count i d f);rw[this,aD]
  ·simp only[zda];rw[if_pos (by simp_all),e,aD];simp only[gS];rw[if_neg (by have:=g.part;simp_all)];simp only[n,Option.bind_some];have:=Gu k d f (lA lp (by decide)) p.2 (λa=>zbp 5000 a need) (λa i=>Ao i d f);rw[this,aD]
 ·refine ⟨false,?_,?_⟩
  ·simp only[iZ,h,Option.bind_some]
   grind
  ·simp only[zda]
   grind
end Go.Plain
end
section
namespace Go.Plain
open Go.Abs
structure z_ (j:aM):Prop where
 st:1<=j.State/\j.State<=6
 start:j.Start≠0->3<=j.State
 fin:j.End≠0->5<=j.State
 ok:j.Ok=true->j.State=4∨j.State=5
 kill:j.dw=true->j.State=4∨j.State=6
structure f_ (j:aM):Prop where
 id:1<=j.Id/\j.Id<=1048576
 user:0<=j.cU/\j.cU<=7
 queue:0<=j.Queue/\j.Queue<=7
 many:1<=j.aK/\j.aK<=64
 need:aL j.ay
 uM:j.ay≠bN
 wall:1<=j.aW/\j.aW<=65536
 mf:j.aI.length<=4
 after:∀d∈j.aI,1<=d.bj/\d.bj<=j.Id-1
 version:1<=j.aO/\j.aO<=281474976710656
 born:0<=j.dB/\j.dB<=1099511627776
 start:0<=j.Start/\j.Start<=1099511627776
 fin:0<=j.End/\j.End<=1099511627776
 arr:0<=j.Array/\j.Array<=j.Id
 state:z_ j
theorem name_ok(x:Int):bL (vO 5000 x) λr=>r.toList=[]↔¬(1<=x/\x<=6):=by
 simp only[vO,bo,aY,my];have e:(⟨#[]⟩:ByteArray).toList=[]:=by kernel_rfl
 refine ⟨λh=>?_,λa=>⟨λh=>?_,λd=>⟨λh=>?_,λf=>⟨λh=>?_,λg=>⟨λh=>?_,λi=>⟨λh=>?_,λj=>?_⟩⟩⟩⟩⟩⟩
 ·simp_all
 ·simp_all
 ·simp_all
 ·simp_all
 ·simp_all
 ·simp_all
 grind
theorem Mj(j:aM):fY (g_ 5000 j) (z_ j):=by
 have e:(⟨#[]⟩:ByteArray).toList=[]:=by kernel_rfl
 simp only[g_,fQ];refine (name_ok j.State).bind λr i=>?_;have no:∀{p:Prop},¬p->(false=true↔p):=λh=>by simp[h]
 rw[bo];refine ⟨λh=>?_,λh=>?_⟩
 ·rw[aY];simp only[e,my] at h;exact no λk=>i.1 h k.st
 ·simp only[e,my] at h;have hs:1<=j.State/\j.State<=6:=yBU λl=>h (i.2 l);simp only[i_,UT,Option.bind_some,bX,cn];have fin:∀Q:Prop,(Q↔((j.Ok=true->j.State=4∨j.State=5)/\(j.dw=true->j.State=4∨j.State=6)->z_ j)/\True)->True:=λ_ _=>trivial;have a:(j.Start≠0->3<=j.State)->(j.End≠0->5<=j.State)->bL (if ((j.Ok&&(j.State != 4))&&(j.State != 5))=true then some false else if ((j.dw&&(j.State != 4))&&(j.State != 6))=true then some false else some true) λb=>b=true↔z_ j:=λf m=>by
   simp only[bo,aY,bG,IX,ne_eq];refine ⟨λq=>no λk=>by have:=k.ok q.1.1;omega,λn=>⟨λq=>no λk=>by have:=k.kill q.1.1;omega,λd=>?_⟩⟩;simp only[OT];refine ⟨hs,f,m,λo=>?_,λo=>?_⟩
   ·grind
   grind
  have mid:(j.Start≠0->3<=j.State)->bL (if (j.End != 0)=true then (if (!((j.State == 5) || (j.State == 6)))=true then some false else if ((j.Ok&&(j.State != 4))&&(j.State != 5))=true then some false else if ((j.dw&&(j.State != 4))&&(j.State != 6))=true then some false else some true) else if ((j.Ok&&(j.State != 4))&&(j.State != 5))=true then some false else if ((j.dw&&(j.State != 4))&&(j.State != 6))=true then some false else some true) λb=>b=true↔z_ j:=λf=>by
   rw[bo];refine ⟨λq=>?_,λq=>a f λg=>absurd g (by simp_all)⟩;rw[bo];refine ⟨λd=>?_,λd=>a f λ_=>?_⟩
   ·rw[aY];simp only[IX,ne_eq,iF,Bool.or_eq_false_iff,beq_eq_false_iff_ne] at q d;exact no λk=>by have:=k.fin q;omega
   grind [Bool.or_eq_false_iff]
  rw[bo];refine ⟨λq=>?_,λq=>mid λg=>absurd g (by simp_all)⟩;rw[bo];refine ⟨λd=>?_,λd=>mid λ_=>?_⟩
  ·rw[aY];simp only[IX,ne_eq,gp,my] at q d;exact no λk=>by have:=k.start q;omega
  grind
theorem AR(j:aM):fY (Zy 5000 j) (f_ j):=by
 have no:∀{p:Prop},¬p->bL (some false) (λb=>b=true↔p):=λh=>by rw[aY];simp[h]
 simp only[Zy,ND,Option.bind_some];have a:∀{l m x:Int}{o:Option Bool}{P:Prop},(P->l<=x/\x<=m)->(l<=x/\x<=m->bL o λb=>b=true↔P)->bL (if (decide (l<=x)&&decide (x<=m))=true then o else some false) λb=>b=true↔P:=λv n=>by rw[bo];simp only[bG,br];exact ⟨λh=>n h,λh=>no λp=>h (v p)⟩
 refine a (λk=>k.id) λc1=>a (λk=>k.user) λE=>a (λk=>k.queue) λF=>a (λk=>k.many) λG=>?_;refine (Tu j.ay).bind λr w=>?_;rw[bo];refine ⟨λh=>?_,λh=>no λk=>h ?_⟩
 rotate_left
 ·have O:aC.beq j.ay bN=false:=by
   grind [gC,f_.uM]
  rw[w.2 k.need];change (true&&!(aC.beq j.ay bN))=true
  simp_all
 simp only[bG,iF] at h;have K:=w.1 h.1;have q:j.ay≠bN:=λe=>by
  have n:aC.beq j.ay bN=false:=h.2
  grind [gC]
 refine a (λk=>k.wall) λL=>?_;have g:fY (gB 5000 j) (j.aI.length<=4/\∀d∈j.aI,1<=d.bj/\d.bj<=j.Id-1):=by
  simp only[gB,bo,aY,ND,Option.bind_some];refine ⟨λh=>?_,λh=>?_⟩
  ·grind
  ·simp only[br] at h;refine NZ j.aI (λd=>1<=d.bj/\d.bj<=j.Id-1) _ (λk=>k.2) (λi f y Q v n=>?_) (λf S=>?_) (by omega)
   ·simp only[cM y,if_true,bW y,Option.bind_some,bT (show i<1000000 by omega),bo,aY,iF,yB0,yBf]
    grind [wr]
   ·simp only[eU,bX,cn,aY,OT]
    grind
 refine g.bind λT z=>?_;rw[bo];refine ⟨λh=>?_,λh=>no λk=>h (z.2 ⟨k.mf,k.after⟩)⟩;have A:=z.1 h;refine a (λk=>k.version) λM=>a (λk=>k.born) λN=>a (λk=>k.start) λs=>a (λk=>k.fin) λt=>a (λk=>k.arr) λu=>?_;refine (Mj j).bind λrs hs=>?_;rw[aY,hs];exact ⟨λk=>⟨c1,E,F,G,K,q,L,A.1,A.2,M,N,s,t,u,k⟩,λk=>k.state⟩
theorem Fv(j:aM)(z:j.aI.length<=10):fY (zdE 5000 j) (f_ j):=by
 simp only[zdE,fQ,Se,Option.bind_some];refine NZ j.aI (λd=>1<=d.bj/\d.bj<=i64.wrap (j.Id-1)) _ (λk d hd=>by have:=k.after d hd;have:=k.id;grind [wr]) (λi f a Q e A=>?_) (λf E=>?_) (by omega)
 ·simp only[cM a,if_true,bW a,Option.bind_some,bT (show i<1000000 by omega),bo,aY,iF,yB0,yBf]
  grind
 ·simp only[eU,bX,cn];obtain ⟨F,g,e⟩:=zw j.ay;simp only[g,Option.bind_some];have no:∀{p:Prop},¬p->(False↔p):=λh=>by simp[h]
  simp only[if_true,cn,bo,aY,br,iF,yB0,yBf,bG,bX,oh,IX,ne_eq,gp,my];refine ⟨λc=>no λk=>by grind [f_.mf],λG=>⟨λc=>no λk=>by have:=k.id;omega,λc1=>⟨λc=>no λk=>by have:=k.user;omega,λK=>⟨λc=>no λk=>by have:=k.queue;omega,λL=>⟨λc=>no λk=>by have:=k.many;omega,λM=>⟨λc=>no λk=>(by grind [f_.need]),λl=>?_⟩⟩⟩⟩⟩⟩;have v:=e.1 l;have m:Pu 5000 j.ay ({ bK:=0,Mem:=0,bM:=0,bO:=0 }:aC)=some (decide (j.ay=bN)):=Gh v;simp only[if_true,cn,m,Option.bind_some,bo,aY,br,iF,yB0,yBf,bG,bX,oh,IX,ne_eq,gp,my];refine ⟨λc=>no λk=>k.uM c,λn=>⟨λc=>no λk=>by have:=k.wall;omega,λN=>⟨λc=>no λk=>by have:=k.state.st;omega,λO=>⟨λc=>no λk=>by have:=k.version;omega,λS=>⟨λc=>no λk=>by have:=k.arr;omega,λq=>⟨λc=>no λk=>by have:=k.born;omega,λr=>⟨λc=>no λk=>by have:=k.start;omega,λs=>⟨λc=>no λk=>by have:=k.fin;omega,λt=>⟨λc=>no λk=>by have:=k.state.start;omega,λu=>⟨λc=>no λk=>by have:=k.state.fin;omega,λw=>⟨λx=>?_,λc=>no λk=>c ?_⟩⟩⟩⟩⟩⟩⟩⟩⟩⟩⟩
  ·constructor
   ·intro y;refine ⟨by omega,by omega,by omega,by omega,v,n,by omega,by omega,λd hd=>?_,by omega,by omega,by omega,by omega,by omega,⟨by omega,by omega,by omega,λo=>?_,λo=>?_⟩⟩
    ·grind [wr]
    ·simp_all
    simp_all
   ·intro k;cases hk:j.dw with
    |false=>simp_all
    |true=>
     rcases k.state.kill hk with c | c
     ·omega
     omega
  ·cases hk:j.Ok with
   |false=>simp_all
   |true=>
    rcases k.state.ok hk with c | c
    ·omega
    omega
end Go.Plain
end
section
namespace Go.Plain
open Go.Abs
section
variable{X R:Type}{b:(X->Option R)->X->Option R}{Q:R->Prop}
theorem lpM(I:X->Prop)(m:X->Nat)(hs:∀x f,I x->(∀d,I d->m d<m x->bL (f d) Q)->bL (b f x) Q){a:X}(g:I a){N:Nat}(i:m a<N):bL (bB b N a) Q:=by
 induction N generalizing a with
 |zero=>omega
 |succ N ih=>exact hs a _ g λd e h=>ih e (by omega)
end
theorem mid{i j:Nat}(h:i+j<1000000):i64.wrap (Int.fdiv (u64.wrap (i64.wrap ((i:Int)+(j:Int)))) (2 ^ 1))=(((i+j) / 2:Nat):Int):=by
 rw[wr (x:=(i:Int)+(j:Int)) (by omega) (by omega)]
 grind [Go.IntKind.wrap,Go.IntKind.bits]
def b_(l:List aM):Prop:=∀i (h:i+1<l.length),l[i].Id<l[i+1].Id
theorem b_.lt{l:List aM}(h:b_ l):∀{i j:Nat}(s:i<j)(u:j<l.length),l[i].Id<l[j].Id:=by
 intro i j s u;induction j with
 |zero=>omega
 |succ j ih=>
  have x:=h j u
  grind
theorem b_.inj{l:List aM}(h:b_ l){i j:Nat}(u:i<l.length)(x:j<l.length)(e:l[i].Id=l[j].Id):i=j:=by
 rcases US i j with s | s | s
 ·have:=h.lt s x;omega
 ·exact s
 ·have:=h.lt s u;omega
structure At (l:List aM) (id:Int) (r:Int):Prop where
 lo:0<=r
 hi:r.toNat<l.length
 is:l[r.toNat].Id=id
theorem At.mem{l:List aM}{id r:Int}(h:At l id r):∃j∈l,j.Id=id:=⟨l[r.toNat]'h.hi,bE _,h.is⟩
theorem At.Bk{l:List aM}{id r i:Int}(hs:b_ l)(h:At l id r)(j:At l id i):r=i:=by have:=hs.inj h.hi j.hi (by grind [At.is]);have:=h.lo;have:=j.lo;omega
theorem half{l:List aM}(v:l.length<=300)(hs:b_ l)(id:Int){R:Type}{Q:R->Prop}(C:aM->Option Bool)(n:∀j∈l,C j=some (decide (j.Id<id)))(E:Int->Option R)
  (w:∀i:Nat,i<=l.length->(∀k (h:k<l.length),k<i->l[k].Id<id)->(∀k (h:k<l.length),i<=k->id<=l[k].Id)->bL (E (i:Int)) Q) :
  ∀ (b : (Int × Int -> Option R) -> Int × Int -> Option R), (∀ f x, b f x = if decide (x.1 < x.2) = true then (aB l (i64.wrap (Int.fdiv (u64.wrap (i64.wrap (x.1 + x.2))) (2 ^ 1)))).bind λa => (C a).bind λc => if c = true then f ((i64.wrap ((i64.wrap (Int.fdiv (u64.wrap (i64.wrap (x.1 + x.2))) (2 ^ 1))) + 1)), x.2) else f (x.1, (i64.wrap (Int.fdiv (u64.wrap (i64.wrap (x.1 + x.2))) (2 ^ 1)))) else E x.1) ->
   bL (bB b 5000 (0,(l.length:Int))) Q:=by
 intro b p;refine lpM (λx=>∃i j:Nat,x=((i:Int),(j:Int))/\i<=j/\j<=l.length/\(∀k (h:k<l.length),k<i->l[k].Id<id)/\(∀k (h:k<l.length),j<=k->id<=l[k].Id)) (λx=>(x.2-x.1).toNat) (λx f r m=>?_) ⟨0,l.length,rfl,by omega,by omega,λk h hk=>by omega,λk h hk=>by omega⟩ (by omega);obtain ⟨i,j,rfl,y,s,t,u⟩:=r;rw[p,bo];dsimp only;refine ⟨λh=>?_,λh=>?_⟩
 ·simp only[br] at h;rw[mid (by omega)];have e:(i+j) / 2<l.length:=by omega
  rw[bW e,aD,n _ (bE e),aD,bo];refine ⟨λg=>?_,λg=>?_⟩
  ·simp only[br] at g;rw[bT (by omega)];refine m _ ⟨(i+j) / 2+1,j,rfl,by omega,s,λk hk d=>?_,u⟩ (by omega);rcases Xh (yCd.1 d) with q | q
   ·have:=hs.lt q e;omega
   simp_all
  ·simp only[br] at g;refine m _ ⟨i,(i+j) / 2,rfl,by omega,by omega,t,λk hk d=>?_⟩ (by omega);rcases Xh d with q | q
   ·have:=hs.lt q hk;omega
   simp_all
 ·simp only[br] at h;have:i=j:=by omega
  simp_all
theorem QF{l:List aM}(m:l.length<=300)(hs:b_ l){id:Int}(n:0<=id/\id<=1048576)(g:∀j∈l,0<=j.Id/\j.Id<=1048576):bL (mM 5000 l id) λr=>(r.2=true↔∃j∈l,j.Id=id)/\(r.2=true->At l id r.1):=by
 simp only[mM,zay];rw[jD];refine half m hs id (λj=>some (decide (i64.wrap (j.Id-id)<0))) (λj d=>?_) (λi=>if (decide (i<(l.length:Int)))=true then (aB l i).bind λp=>(gK 5000 p id).bind λs=>some (i,(s == 0)) else some (i,false)) (λi t u v=>?_) _ (λf x=>rfl)
 ·have:=g j d;rw[wr (by omega) (by omega)]
  grind
 ·rw[bo];refine ⟨λh=>?_,λh=>?_⟩
  ·simp only[br] at h;have a:i<l.length:=by omega
   have:=g _ (bE a);rw[bW a,aD];simp only[gK,Option.bind_some,aY,my];rw[wr (by omega) (by omega)];refine ⟨⟨λe=>⟨_,bE a,by omega⟩,λ⟨j,d,e⟩=>?_⟩,λe=>⟨by omega,by omega,by grind⟩⟩;obtain ⟨k,hk,rfl⟩:=km d;rcases US k i with q | q | q
   ·grind
   ·simp_all
   ·have:=hs.lt q hk;grind
  ·simp only[br] at h;simp only[aY,bX,Fe,false_implies,Nr]
   grind [List.getElem_of_mem]
theorem vn{l:List aM}(g:l.length<=300)(id:Int):bL (WA 5000 l id) λr=>(0<=r↔∃j∈l,j.Id=id)/\(0<=r->At l id r)/\(r<0->r=-1):=by
 simp only[WA];refine xq l (λ_ j=>j.Id≠id) (λi f h _ a=>?_) (λf h=>?_) (by omega)
 ·simp only[cM h,if_true,bW h,Option.bind_some,bT (show i<1000000 by omega),bo,aY,my];exact ⟨λe=>⟨⟨λ_=>⟨_,bE h,e⟩,λ_=>by omega⟩,λ_=>⟨by omega,by omega,by simp_all⟩,λh=>by omega⟩,λe=>a e⟩
 ·simp only[eU,bX,cn,aY];refine ⟨⟨λh=>by omega,λ⟨j,d,e⟩=>absurd e (Cy (A:=λj=>j.Id≠id) h j d)⟩,λh=>by omega,λ_=>trivial⟩
structure CR (l:List cW) (n:Int) (i:Nat) (x:cW):Prop where
 up:JZ (l.map (·.Node)) i<x.Node
 lt:x.Node<n
 lo:1<=x.aK
 hi:x.aK<=64
def a_(l:List cW)(n:Int):Prop:=∀i (h:i<l.length),CR l n i l[i]
theorem a_.node{l:List cW}{n:Int}(h:a_ l n):mT (l.map (·.Node)) n:=λi j=>by rw[xw] at j;rw[Vb];exact ⟨(h i j).up,(h i j).lt⟩
theorem a_.mem{l:List cW}{n:Int}(h:a_ l n):∀x∈l,0<=x.Node/\x.Node<n/\1<=x.aK/\x.aK<=64:=λx j=>by have s:=h.node.mem x.Node (iT.2 ⟨x,j,rfl⟩);obtain ⟨i,z,rfl⟩:=km j;have u:=h i z;exact ⟨s.1,s.2,u.lo,u.hi⟩
theorem rp{l:List cW}{i:Nat}(h:i<l.length):JZ (l.map (·.Node)) (i+1)=l[i].Node:=by grind [qw]
theorem oM(l:List cW)(n:Int)(s:l.length<=300):fY (zd7 5000 l n) (a_ l n):=by
 simp only[zd7];refine ja l.length (λi x=>x=(JZ (l.map (·.Node)) i,(i:Int))/\∀j (g:j<l.length),j<i->CR l n j l[j]) (λi x f a d p=>?_) (λx f d=>?_) ⟨rfl,λj g h=>by omega⟩ (by omega)
 ·obtain ⟨rfl,k⟩:=d;simp only[cM a,if_true,bW a,Option.bind_some,bT (show i<1000000 by omega),bo,aY,gp,br];refine ⟨λh=>?_,λh=>p _ ⟨by rw[rp a],λj g e=>?_⟩⟩
  ·simp only[bX,Fe];intro r;have q:=r i a;have t:=q.up;have u:=q.lt;have v:=q.lo;have w:=q.hi;omega
  ·rcases Xh (yCd.1 e) with m | m
   ·simp_all
   ·subst m;exact ⟨by omega,by omega,by omega,by omega⟩
 ·obtain ⟨rfl,k⟩:=d;simp only[eU,bX,cn,aY,OT];exact λi a=>k i a a
theorem HK(l:List cW)(n:Int)(u:l.length<=300):fY (zbu 5000 l n) (a_ l n):=by
 simp only[zbu,fQ];refine xq l (λi a=>CR l n i a) (λi f h v e=>?_) (λf h=>?_) (by omega)
 ·have hd:decide ((i:Int) > 0)=decide (0<i):=by simp
  simp only[cM h,if_true,bW h,Option.bind_some,bT (show i<1000000 by omega),bo,aY,br,hd,bX,cn];have bad:¬(CR l n i l[i])->(False↔a_ l n):=λg=>by simp only[Fe];exact λd=>g (d i h)
  refine ⟨λj=>?_,λj=>⟨λp=>bad λk=>by have:=k.lt;omega,λp=>⟨λq=>bad λk=>by have:=k.lo;omega,λq=>⟨λr=>bad λk=>by have:=k.hi;omega,λr=>⟨λs=>?_,λs=>?_⟩⟩⟩⟩⟩
  ·simp only[Fe];intro d;have:=(d.mem _ (bE h)).1;omega
  ·obtain ⟨m,rfl⟩:∃m,i=m+1:=⟨i-1,by omega⟩;rw[wp1 (show m+1<1000000 by omega),bW (show m<l.length by omega)];simp only[Option.bind_some,bo,br,aY,bX];exact ⟨λt=>bad λk=>by have:=k.up;grind [rp],λt=>e ⟨by grind [rp],by omega,by omega,by omega⟩⟩
  ·have:i=0:=by omega
   subst this;exact e ⟨by grind [JZ],by omega,by omega,by omega⟩
 ·simp only[eU,bX,cn,aY,OT];exact h
def lT(l:List cW):Int:=(l.map (·.aK)).sum
theorem Xy{l:List cW}(h:∀x∈l,1<=x.aK/\x.aK<=64):0<=lT l/\lT l<=64 * l.length:=by
 induction l with
 |nil=>simp[lT]
 |cons x l ih=>
  have:=ih λy a=>h y (oD _ a)
  grind [lT]
theorem Ny{l:List cW}{i:Nat}(h:i<l.length):lT (l.take (i+1))=lT (l.take i)+l[i].aK:=by grind [List.take_succ_eq_append_getElem,lT]
theorem Nq{l:List cW}{n:Int}(g:l.length<=300)(h:a_ l n):ou 5000 l=some (lT l):=by
 simp only[ou];refine bL.eq (ja l.length (λi x=>x=(lT (l.take i),(i:Int))) (λi x f d a j=>?_) (λx f a=>?_) (by simp[lT]) (by omega))
 ·subst a;have q:=h.mem _ (bE d);have b:=Xy (l:=l.take i) λx a=>(h.mem x (NP a)).2.2;have k:((l.take i).length:Int)<=300:=by rw[BY];omega
  have e:Zs 5000 l[i].aK 0 64=some l[i].aK:=by
   simp only[Zs]
   grind
  simp only[cM d,if_true,bW d,Option.bind_some,e,bT (show i<1000000 by omega)]
  grind [wr,Ny]
 ·subst a;simp only[eU,bX,cn,aY,yh]
theorem Tl{l:List cW}{n:Int}(e:l.length<=300)(h:a_ l n):zdI 5000 l=some (lT l):=by
 simp only[zdI,fQ];refine bL.eq (ja l.length (λi x=>x=(lT (l.take i),(i:Int))) (λi x f d a g=>?_) (λx f a=>?_) (by simp[lT]) (by omega))
 ·subst a;have q:=h.mem _ (bE d);have b:=Xy (l:=l.take i) λx a=>(h.mem x (NP a)).2.2;have j:((l.take i).length:Int)<=300:=by grind
  simp only[cM d,if_true,bW d,Option.bind_some,bT (show i<1000000 by omega)];rw[if_neg (by simp_all),if_pos (by grind),wr (by omega) (by omega)]
  grind [Ny]
 ·subst a;simp only[eU,bX,cn,aY,yh]
theorem L_(l:List Int)(g:l.length<=300)(x:Int):fY (zb3 5000 l x) (x∈l):=by
 simp only[fY,zb3,zdV];rw[jD];refine xq l (λ_ y=>x≠y) (λi f h _ a=>?_) (λf h=>?_) (by omega)
 ·simp only[cM h,if_true,bW h,Option.bind_some,bT (show i<1000000 by omega),bo,my];refine ⟨λe=>?_,λe=>a e⟩;simp only[aY,br]
  simp_all
 ·simp only[eU,bX,cn,aY,br];exact ⟨λh=>by omega,λd=>absurd rfl (Cy (A:=λy=>x≠y) h x d)⟩
theorem ZO(l:List Int)(d:l.length<=300)(x:Int):fY (zeO 5000 l x) (x∈l):=by
 simp only[zeO];refine xq l (λ_ y=>y≠x) (λi f h _ e=>?_) (λf h=>?_) (by omega)
 ·simp only[cM h,if_true,bW h,Option.bind_some,bT (show i<1000000 by omega),bo,my,aY,OT]
  grind
 ·simp only[eU,bX,cn,aY,Fe];exact λa=>absurd rfl (Cy (A:=λy=>y≠x) h x a)
structure kY (s:bn) (j:aM) (l:List cW):Prop where
 shares:a_ l s.am.length
 UP:lT l=j.aK
 q:0<=j.Queue/\j.Queue<s.aq.length
 part:∀x∈l,x.Node∈(s.aG[((s.aq[j.Queue.toNat]?).getD default).Part.toNat]?).getD []
theorem KG{s:bn}(hs:mY s)(k:bm s)(j:aM)(l:List cW)(g:l.length<=300):fY (zeT 5000 s j l) (kY s j l):=by
 have no:∀{p:Prop},¬p->bL (some false) (λb=>b=true↔p):=λh=>by rw[aY];simp[h]
 simp only[zeT,fQ];refine (oM l _ g).bind λr m=>?_;rw[bo];refine ⟨λh=>?_,λh=>?_⟩
 ·simp only[if_true];exact no λk=>by grind [kY.shares]
 ·simp only[iF,oh] at h;have S:=m.1 h;rw[Nq g S,aD,bo];refine ⟨λt=>no λk=>by grind [kY.UP],λt=>?_⟩;have u:lT l=j.aK:=by simp_all
  rw[bo];refine ⟨λv=>no λk=>by have:=k.q;grind,λv=>?_⟩;have a:0<=j.Queue/\j.Queue<s.aq.length:=by simp_all
  obtain ⟨d,e⟩:=FJ a.1 a.2;have n:=k.gT.ok _ (bE d);obtain ⟨w,y⟩:=FJ n.part.1 n.part.2;have lp:=hs.part _ (bE w);have z:(s.aG[((s.aq[j.Queue.toNat]?).getD default).Part.toNat]?).getD []=s.aG[s.aq[j.Queue.toNat].Part.toNat]:=by simp_all
  rw[e,aD,y,aD];refine NZ l (λx=>x.Node∈s.aG[s.aq[j.Queue.toNat].Part.toNat]) _ (λk x d=>by rw[<-z];exact k.part x d) (λi f q Q A E=>?_) (λf F=>?_) (by omega)
  ·simp only[cM q,if_true,bW q,Option.bind_some,bT (show i<1000000 by omega)];refine (L_ _ (lA lp (by decide)) _).bind λr m=>?_;simp only[bo,aY,iF,oh]
   grind
  ·simp only[eU,bX,cn,aY,OT];exact ⟨S,u,a,by simp_all⟩
theorem YW{s:bn}(hs:mY s)(k:bm s)(j:aM)(l:List cW)(g:l.length<=300):fY (zeg 5000 s j l) (kY s j l):=by
 have no:∀{p:Prop},¬p->bL (some false) (λb=>b=true↔p):=λh=>by rw[aY];simp[h]
 simp only[zeg,fQ];refine (HK l _ g).bind λr m=>?_;rw[bo];refine ⟨λh=>?_,λh=>?_⟩
 ·simp only[if_true];exact no λk=>by grind [kY.shares]
 ·simp only[iF,oh] at h;have S:=m.1 h;rw[Tl g S,aD,bo];refine ⟨λu=>no λk=>by have:=k.UP;have:=k.q;grind,λu=>?_⟩;have n:lT l=j.aK/\0<=j.Queue/\j.Queue<s.aq.length:=by simp_all
  have a:=n.2;obtain ⟨d,e⟩:=FJ a.1 a.2;have q:=k.gT.ok _ (bE d);obtain ⟨v,w⟩:=FJ q.part.1 q.part.2;have lp:=hs.part _ (bE v);have y:(s.aG[((s.aq[j.Queue.toNat]?).getD default).Part.toNat]?).getD []=s.aG[s.aq[j.Queue.toNat].Part.toNat]:=by simp_all
  rw[e,aD,w,aD];refine NZ l (λx=>x.Node∈s.aG[s.aq[j.Queue.toNat].Part.toNat]) _ (λk x d=>by rw[<-y];exact k.part x d) (λi f t Q z A=>?_) (λf E=>?_) (by omega)
  ·simp only[cM t,if_true,bW t,Option.bind_some,bT (show i<1000000 by omega)];refine (ZO _ (lA lp (by decide)) _).bind λr m=>?_;simp only[bo,aY,iF,oh]
   grind
  ·simp only[eU,bX,cn,aY,OT];exact ⟨S,n.1,a,by simp_all⟩
end Go.Plain
end
section
namespace Go.Plain
open Go.Abs
def cmp:Nat->aC->Int
 |0,r=>r.bK
 |1,r=>r.Mem
 |2,r=>r.bM
 |_,r=>r.bO
theorem vB{r:aC}:aL r↔∀c,0<=cmp c r/\cmp c r<=1048576:=by
 constructor
 ·intro h c
  match c with
  |0=>exact h.Fy
  |1=>exact h.mem
  |2=>exact h.Ir
  |_+3=>exact h.Ka
 ·intro h;exact ⟨h 0,h 1,h 2,h 3⟩
theorem dU{a b:aC}(h:∀c,cmp c a=cmp c b):a=b:=by
 obtain ⟨d,e,f,g⟩:=a;obtain ⟨i,j,k,l⟩:=b;have m:=h 0;have n:=h 1;have p:=h 2;have q:=h 3
 grind [cmp]
def fj(a b:aC):aC:={ bK:=a.bK-b.bK,Mem:=a.Mem-b.Mem,bM:=a.bM-b.bM,bO:=a.bO-b.bO }
def Bh(a b:aC):aC:={ bK:=a.bK+b.bK,Mem:=a.Mem+b.Mem,bM:=a.bM+b.bM,bO:=a.bO+b.bO }
def mulR(n:Int)(a:aC):aC:={ bK:=n * a.bK,Mem:=n * a.Mem,bM:=n * a.bM,bO:=n * a.bO }
theorem B_(c:Nat)(a b:aC):cmp c (fj a b)=cmp c a-cmp c b:=by match c with | 0=>rfl | 1=>rfl | 2=>rfl | _+3=>rfl
theorem vT(c:Nat)(a b:aC):cmp c (Bh a b)=cmp c a+cmp c b:=by match c with | 0=>rfl | 1=>rfl | 2=>rfl | _+3=>rfl
theorem AP(c:Nat)(n:Int)(a:aC):cmp c (mulR n a)=n * cmp c a:=by match c with | 0=>rfl | 1=>rfl | 2=>rfl | _+3=>rfl
theorem NH(c:Nat):cmp c bN=0:=by match c with | 0=>rfl | 1=>rfl | 2=>rfl | _+3=>rfl
theorem CI{a:Int}(h:a.natAbs<2 ^ 53):yN a=some a:=by unfold yN;simp_all
theorem GF{a b c d:Int}(e:a.natAbs<2 ^ 53)(f:b.natAbs<2 ^ 53)(g:c.natAbs<2 ^ 53)(hd:d.natAbs<2 ^ 53) :
  bL (zdu 5000 (a,b) (c,d)) λr=>(r.2=0↔aL ⟨a,b,c,d⟩)/\(r.2=0->r.1=⟨a,b,c,d⟩):=by
 simp only[zdu,mE,CI e,CI f,CI g,CI hd,Option.bind_some];refine (Tu _).bind λr h=>?_;simp only[bo,aY,iF,oh]
 grind
theorem gU{n x:Int}(a:0<=n/\n<=64)(d:0<=x/\x<=1048576):0<=n * x/\n * x<=67108864:=by have e:0<=n * x:=yBL a.1 d.1;have f:n * x<=64 * x:=yAQ a.2 d.1;omega
theorem KY{a:aC}{n:Int}(d:aL a)(m:1<=n/\n<=64):bL (ma 5000 a n) λr=>(r.2=0↔aL (mulR n a))/\(r.2=0->r.1=mulR n a):=by
 simp only[ma];obtain ⟨p,i,j⟩:=Tu a;have k:=j.2 d;subst k;have e:0<=n/\n<=64:=by omega
 simp only[i,Option.bind_some,NE,Bool.false_or];rw[if_neg (by simp_all)];by_cases g:a=bN
 ·subst g;rw[if_pos (by exact gC.2 rfl),aY];have:mulR n bN=bN:=by simp[mulR,bN]
  rw[this];exact ⟨⟨λ_=>⟨by simp[bN],by simp[bN],by simp[bN],by simp[bN]⟩,λ_=>rfl⟩,λ_=>rfl⟩
 ·rw[if_neg (show ¬(aC.beq a ({ bK:=0,Mem:=0,bM:=0,bO:=0 }:aC)=true) from λh=>g (gC.1 h)),if_neg (by grind)];have f:∀{x:Int},0<=x/\x<=1048576->xA x n=some (x * n):=λ{x} q=>by unfold xA;grind
  have s:=gU e d.Fy;have t:=gU e d.mem;have u:=gU e d.Ir;have v:=gU e d.Ka;simp only[zc1,Option.bind_some,f d.Fy,f d.mem,f d.Ir,f d.Ka];rw[Int.mul_comm a.bK n,Int.mul_comm a.Mem n,Int.mul_comm a.bM n,Int.mul_comm a.bO n];refine (GF (by omega) (by omega) (by omega) (by omega)).bind λr l=>?_;rw[aY];exact l
theorem Ym{a b:aC}(d:aL a)(e:aL b):bL (vJ 5000 a b) λr=>(r.2=0↔aL (fj a b))/\(r.2=0->r.1=fj a b):=by
 simp only[vJ,fQ];obtain ⟨n,g,h⟩:=Tu a;have i:=h.2 d;subst i;obtain ⟨p,j,k⟩:=Tu b;have l:=k.2 e;subst l;have f:∀{x y:Int},0<=x/\x<=1048576->0<=y/\y<=1048576->xh x y=some (x-y):=λ{x y} q s=>by unfold xh;grind
 simp only[g,j,Option.bind_some,NE,bX,cn,zc1,f d.Fy e.Fy,f d.mem e.mem,f d.Ir e.Ir,f d.Ka e.Ka];have:=d.Fy;have:=d.mem;have:=d.Ir;have:=d.Ka;have:=e.Fy;have:=e.mem;have:=e.Ir;have:=e.Ka;refine (GF (by omega) (by omega) (by omega) (by omega)).bind λr m=>?_;rw[aY];exact m
def dM(l:List cW)(i:Int):Int:=(l.map λx=>if x.Node=i then x.aK else 0).sum
theorem nH{l:List cW}{k:Nat}(h:k<l.length)(i:Int):dM (l.take (k+1)) i=dM (l.take k) i+if l[k].Node=i then l[k].aK else 0:=by grind [List.take_succ_eq_append_getElem,dM]
theorem xH{l:List cW}(h:∀x∈l,0<=x.aK)(i:Int):0<=dM l i:=by
 induction l with
 |nil=>simp[dM]
 |cons x l ih=>grind [dM]
theorem Rl{l m:List cW}(i:Int):dM (l++m) i=dM l i+dM m i:=by simp[dM]
theorem Vl{l:List cW}(h:∀x∈l,0<=x.aK)(k:Nat)(i:Int):dM (l.take k) i<=dM l i:=by have:=Rl (l:=l.take k) (m:=l.drop k) i;rw[NL] at this;have:=xH (l:=l.drop k) (λx a=>h x (yBi a)) i;omega
theorem qY{l:List cW}{n:Int}(h:a_ l n)(i:Int):0<=dM l i/\dM l i<=64:=by
 refine ⟨xH (λx d=>by have:=h.mem x d;omega) i,?_⟩;have a:∀k,k<=l.length->(dM (l.take k) i<=64/\(dM (l.take k) i≠0->i<=JZ (l.map (·.Node)) k)):=by
  intro k;induction k with
  |zero=>grind [dM]
  |succ k ih=>intro hk;obtain ⟨e,f⟩:=ih (by omega);have s:=h k (by omega);have s1:=s.up;have g:=s.lt;have j:=s.lo;have m:=s.hi;rw[nH (by omega),rp (show k<l.length by omega)];omega
 have:=(a l.length (cR _)).1
 simp_all
theorem Pp{l:List cW}{n:Int}(m:l.length<=300)(h:a_ l n)(i:Int):zdb 5000 l i=some (dM l i):=by
 simp only[zdb,fQ];refine bL.eq (ja l.length (λk x=>x=(dM (l.take k) i,(k:Int))) (λk x f d a j=>?_) (λx f a=>?_) (by simp[dM]) (by omega))
 ·subst a;have q:=h.mem _ (bE d);have b:=xH (l:=l.take k) (λx a=>by have:=h.mem x (NP a);omega) i;have p:=Vl (λx a=>by have:=h.mem x a;omega) k i;have r:=qY h i;have e:=nH d i;simp only[cM d,if_true,bW d,Option.bind_some,bT (show k<1000000 by omega),bo,my];refine ⟨λg=>?_,λg=>j _ ?_⟩
  ·rw[if_pos g] at e
   grind [wr]
  simp_all
 ·subst a;simp only[eU,bX,cn,aY,yh]
def pV(a:ca)(i:Nat)(r:aC):aC:=fj r (mulR (dM a.ae i) a.ay)
def xD(F:List aC)(a:ca):Prop:=∀i (h:i<F.length),aL (pV a i F[i])
structure rN (F:List aC) (a:ca) (G:List aC):Prop where
 len:G.length=F.length
 cT:∀i (h:i<G.length),G[i]=pV a i (F[i]'(by omega))
theorem Us{a:ca}{F:List aC}(hF:F.length<=300)(hl:a.ae.length<=300)(N:a_ a.ae F.length)(E:aL a.ay)(T:∀r∈F,aL r) :
  bL (zbH 5000 a F) λr=>(r.2=0↔xD F a)/\(r.2=0->rN F a r.1):=by
 simp only[zbH,za4,Ft (show F.length<=1000000 by omega),Option.bind_some];have nn:∀x∈a.ae,0<=x.aK:=λx p=>by have:=N.mem x p;omega
 refine ja a.ae.length (λk x=>x.1=(k:Int)/\x.2.length=F.length/\(∀r∈x.2,aL r)/\∀i (h:i<x.2.length) (j:i<F.length),x.2[i]=fj F[i] (mulR (dM (a.ae.take k) i) a.ay)) (λk x f hk p U=>?_) (λx f p=>?_) ⟨rfl,rfl,T,λi h j=>?_⟩ (by omega)
 ·obtain ⟨W,G⟩:=x;obtain ⟨rfl,g,m,d⟩:=p;dsimp only at g m d ⊢;have q:=N.mem _ (bE hk);have O:a.ae[k].Node.toNat<G.length:=by omega
  have u:a.ae[k].Node.toNat<F.length:=by omega
  have K:((a.ae[k].Node.toNat:Nat):Int)=a.ae[k].Node:=by omega
  have Y:=nH hk a.ae[k].Node;rw[if_pos rfl] at Y;have le:=Vl nn (k+1) a.ae[k].Node;have n0:=xH (l:=a.ae.take k) (λx p=>nn x (NP p)) a.ae[k].Node;have L:=d _ O u;rw[K] at L;have bad:(∃c,cmp c G[a.ae[k].Node.toNat]-a.ae[k].aK * cmp c a.ay<0)->¬xD F a:=λ⟨c,w⟩ y=>by
   have M:=vB.1 (y _ u) c;rw[pV,B_,AP,K] at M;rw[L,B_,AP] at w;have z:0<=cmp c a.ay:=(vB.1 E c).1;have h3:(dM (a.ae.take k) a.ae[k].Node+a.ae[k].aK) * cmp c a.ay<=dM a.ae a.ae[k].Node * cmp c a.ay:=yAQ (by omega) z
   grind
  simp only[cM hk,if_true,bW hk,Option.bind_some,bT (show k<1000000 by omega)];refine (KY E q.2.2).bind λr s=>?_;simp only[bo,aY,IX,ne_eq,TX];refine ⟨λh=>⟨⟨λj=>absurd j h,λy=>?_⟩,λj=>absurd j h⟩,λh=>?_⟩
  ·exfalso;refine bad ?_ y;have n:¬aL (mulR a.ae[k].aK a.ay):=λv=>h (s.1.2 v);rw[vB] at n;obtain ⟨c,w⟩:=Classical.not_forall.1 n;refine ⟨c,?_⟩;rw[AP] at w;have M:=gU (show 0<=a.ae[k].aK/\a.ae[k].aK<=64 by omega) (vB.1 E c)
   grind [vB,List.getElem_mem]
  ·have Z:=s.2 h;have v1:=s.1.1 h;obtain ⟨aa,e⟩:=FJ (l:=G) (x:=a.ae[k].Node) (by omega) (by omega);rw[e,aD,Z];refine (Ym (m _ (bE O)) v1).bind λr2 t=>?_;simp only[Option.bind_some,bo,aY,IX,ne_eq,TX];refine ⟨λj=>⟨⟨λz=>absurd z j,λy=>?_⟩,λz=>absurd z j⟩,λj=>?_⟩
   ·exfalso;refine bad ?_ y;have n:¬aL (fj G[a.ae[k].Node.toNat] (mulR a.ae[k].aK a.ay)):=λv=>j (t.1.2 v);rw[vB] at n;obtain ⟨c,w⟩:=Classical.not_forall.1 n;refine ⟨c,?_⟩;rw[B_,AP] at w;have M:=gU (show 0<=a.ae[k].aK/\a.ae[k].aK<=64 by omega) (vB.1 E c)
    grind [vB,List.getElem_mem]
   ·have e2:=t.2 j;have v2:=t.1.1 j;refine U _ ⟨rfl,by simp_all,λr ab=>?_,λi S ad=>?_⟩
    ·grind
    ·dsimp only at S ⊢;rw[W_] at S;rw[List.getElem_set];have A:=nH hk (i:Int);split
     ·rename_i ei;subst ei;rw[e2,L];rw[if_pos K.symm] at A;rw[A];refine dU λc=>?_;rw[B_,B_,B_,AP,AP,AP,Int.add_mul,K];omega
     grind
 ·obtain ⟨W,G⟩:=x;obtain ⟨rfl,g,m,d⟩:=p;dsimp only at g m d ⊢;simp only[eU,bX,cn,aY,yh,OT,true_implies] at d ⊢;refine ⟨λi h=>?_,g,λi h=>d i h (by omega)⟩;have:=m _ (bE (show i<G.length by omega));rw[d i (by omega) h] at this;exact this
 ·refine dU λc=>?_;rw[B_,AP];simp[dM]
theorem Hs{a:ca}(h:a.ae.length<=1000000):jj 5000 a=some a:=by simp only[jj,zbv,Ft h,Option.bind_some]
structure uy (M:List (Int×ca)) (F:List aC) (a:ca):Prop where
 Eo:1<=a.bj/\a.bj<=1048576
 some':a.ae≠[]
 shares:a_ a.ae F.length
 need:aL a.ay
 free:cE M a.bj=none
 fits:xD F a
theorem JE{M:List (Int×ca)}{a:ca}{F:List aC}(i:F.length<=300)(g:a.ae.length<=300)(j:∀r∈F,aL r) :
  bL (zaO 5000 M a F) λr=>(r.2.1=0↔uy M F a)/\(r.2.1=0->r.1=jP M a.bj a/\rN F a r.2.2):=by
 simp only[zaO,fQ,if_true,bX,cn];have no:∀{p:Prop}{x:List (Int×ca)×Int×List aC}{q:Prop},¬p->x.2.1≠0->bL (some x) (λr=>(r.2.1=0↔p)/\(r.2.1=0->r.1=jP M a.bj a/\rN F a r.2.2)):=λ{p x q} m n=>by grind [aY]
 rw[bo];refine ⟨λh=>?_,λh=>?_⟩
 ·simp only[gp,br,my] at h;refine no (q:=True) (λt=>?_) (by simp);have:=t.Eo;rcases h with h | h
  ·omega
  ·exact t.some' (VI (by omega))
 ·simp only[gp,br,my,not_or] at h;refine (oM _ _ g).bind λr k=>?_;rw[bo];refine ⟨λe=>no (q:=True) (λt=>by grind [uy.shares]) (by simp),λe=>?_⟩;simp only[iF,oh] at e;have S:=k.1 e;refine (Tu a.ay).bind λs f=>?_;rw[bo];refine ⟨λe=>no (q:=True) (λt=>by grind [uy.need]) (by simp),λe=>?_⟩;simp only[iF,oh] at e;have V:=f.1 e;cases l:cE M a.bj with
  |some v=>exact no (q:=True) (λt=>by grind [uy.free]) (by simp)
  |none=>
   simp only[oel];refine (Us i g S V j).bind λu d=>?_;rw[bo];refine ⟨λe=>?_,λe=>?_⟩
   ·simp only[IX,ne_eq] at e;exact no (q:=True) (λt=>e (d.1.2 t.fits)) e
   ·simp only[IX,ne_eq,TX] at e;rw[Hs (by omega),aD,aY];refine ⟨⟨λ_=>⟨by omega,λw=>?_,S,V,l,d.1.1 e⟩,λ_=>rfl⟩,λ_=>⟨rfl,d.2 e⟩⟩
    simp_all
end Go.Plain
end
section
namespace Go.Plain
open Go.Abs
theorem cS{p:Prop}(h:¬p):bL (some false) (λb=>b=true↔p):=by grind [aY]
theorem se{p:Prop}(h:p):bL (some true) (λb=>b=true↔p):=by grind [aY]
structure PJ (s:bn) (st:cw):Prop where
 now:0<=st.aX/\st.aX<=1099511627776
 next:1<=st.Next/\st.Next<=s.jX+1
 book:1<=st.dV/\st.dV<=281474976710656
theorem Ox{s:bn}(k:bm s)(st:cw):fY (jr 5000 s st) (PJ s st):=by have f:=k.ids;simp only[jr,zdf,Option.bind_some,fY];rw[wr (x:=s.jX+1) (by omega) (by omega)];simp only[bo,aY,bG,br,bX,Fe];exact ⟨λa=>⟨λd=>⟨λe=>⟨a,d,e⟩,λh=>h.book⟩,λd h=>d h.next⟩,λa h=>a h.now⟩
def jc(x:Int):Int:=if x=3 then 1 else if x=4 then 2 else if x=5∨x=6 then 3 else 0
theorem Ej(x:Int):0<=jc x/\jc x<=3:=by unfold jc;split <;> (try split) <;> (try split) <;> omega
theorem YG(x:Int):oR 5000 x=some (jc x):=by
 simp only[oR,UT,Option.bind_some,my,gp]
 grind [jc]
structure np (s:bn) (st:cw) (j:aM):Prop where
 ok:f_ j
 next:j.Id<st.Next
 user:j.cU<s.aR
 queue:j.Queue<s.aq.length
 born:j.dB<=st.aX
 start:j.Start<=st.aX
 fin:j.End<=st.aX
 version:j.aO<=s.aF+jc j.State
def Js(l:List aM):Nat->Int
 |0=>0
 |i+1=>((l[i]?).map (·.Id)).getD 0
theorem vK{l:List aM}{i:Nat}(h:i<l.length):Js l (i+1)=l[i].Id:=by simp[Js,h]
structure dt (s:bn) (st:cw):Prop where
 len:(st.aj.length:Int)<=s.aj
 each:∀j∈st.aj,np s st j
 bV:b_ st.aj
theorem QO{s:bn}{st:cw}(h:(st.aj.length:Int)<=s.aj)(g:∀i (h:i<st.aj.length),np s st st.aj[i]/\Js st.aj i<st.aj[i].Id):dt s st:=
 ⟨h,λj a=>by grind [List.getElem_of_mem],λi d=>by grind [vK]⟩
theorem dt.cT{s:bn}{st:cw}(h:dt s st)(i:Nat)(j:i<st.aj.length):np s st st.aj[i]/\Js st.aj i<st.aj[i].Id:=by
 refine ⟨h.each _ (bE j),?_⟩
 match i,j with
 |0,j=>have:=(h.each _ (bE j)).ok.id;grind [Js]
 |i+1,j=>rw[vK (by omega)];exact h.bV i j
theorem dt.ids{s:bn}{st:cw}(h:dt s st):∀j∈st.aj,0<=j.Id/\j.Id<=1048576:=λj i=>by have:=(h.each j i).ok.id;omega
theorem max3{a b c n:Int}:(if c > (if b > a then b else a) then c else (if b > a then b else a)) > n↔a > n∨b > n∨c > n:=by omega
theorem jobs_ok{s:bn}(k:bm s){st:cw}(p:lF s st):fY (rH 5000 s st) (dt s st):=by
 have z:=k.tS;have A:=p.bp;simp only[rH,fQ,YG,Option.bind_some];rw[fY,bo];refine ⟨λh=>cS λq=>?_,λt=>?_⟩
 ·have:=q.len
  grind
 ·simp only[br] at t;refine ja st.aj.length (λi x=>x=(Js st.aj i,(i:Int))/\∀j (h:j<st.aj.length),j<i->np s st st.aj[j]/\Js st.aj j<st.aj[j].Id) (λi x f d g u=>?_) (λx f g=>?_) ⟨rfl,λj h l=>by omega⟩ (by omega)
  ·obtain ⟨rfl,n⟩:=g;simp only[cM d,if_true,bW d,Option.bind_some,bT (show i<1000000 by omega)];refine (AR _).bind λr e=>?_;rw[bo];refine ⟨λh=>cS λq=>?_,λh=>?_⟩
   ·have a:=q.cT i d;have E:=e.2 a.1.ok;have F:=a.1.next
    grind
   ·simp only[gp,br,not_or,iF,oh] at h;have a:=e.1 h.1.1;rw[bo];refine ⟨λh=>cS λq=>?_,λv=>?_⟩
    ·have a:=(q.cT i d).1;have:=a.user;have:=a.queue
     grind
    ·simp only[gp,br,not_or] at v;rw[bo];refine ⟨λh=>?_,λw=>?_⟩
     ·refine cS λq=>?_;have a:=(q.cT i d).1;have:=a.born;have:=a.start;have:=a.fin
      grind
     ·simp only[br,max3] at w;have G:=Ej st.aj[i].State;rw[wr (x:=s.aF+jc _) (by omega) (by omega),bo];refine ⟨λh=>cS λq=>?_,λy=>u _ ⟨by rw[vK d],λj K m=>?_⟩⟩
      ·have a:=(q.cT i d).1.version
       grind
      ·simp only[br] at y;rcases Xh (yCd.1 m) with l | l
       ·simp_all
       ·subst l;exact ⟨⟨a,by omega,by omega,by omega,by omega,by omega,by omega,by omega⟩,by omega⟩
  ·obtain ⟨rfl,n⟩:=g;simp only[eU,bX,cn];exact se (QO (by omega) λi d=>n i d d)
structure WaitsIn (s:bn) (st:cw) (j:aM):Prop where
 fits:iZ 5000 s j.Queue j.aK j.ay=some true
 after:∀d∈j.aI,∃i∈st.aj,i.Id=d.bj
def GN(s:bn)(st:cw)(j:aM):Prop:=j.State<5->WaitsIn s st j
theorem Qc{s:bn}(k:bm s){st:cw}(t:lF s st)(J:dt s st):fY (jy 5000 s st) (∀j∈st.aj,GN s st j):=by
 have F:=t.bp;simp only[jy,fQ,UT,Option.bind_some];refine NZ st.aj (GN s st) _ (λh=>h) (λi f n Q u v=>?_) (λf h=>?_) (by omega)
 ·simp only[cM n,if_true,bW n,Option.bind_some,bT (show i<1000000 by omega)];have a:=J.each _ (bE n);have z:=a.ok.state.st;rw[bo];refine ⟨λh=>u λhs=>?_,λh=>?_⟩
  ·grind
  ·simp only[gp,my,not_or] at h;have hs:st.aj[i].State<5:=by omega
   obtain ⟨b,x,G⟩:=Sx t.spec k (q:=st.aj[i].Queue) (m:=st.aj[i].aK) a.ok.need a.ok.uM;rw[x,aD,bo];refine ⟨λe=>?_,λe=>?_⟩
   ·rw[aY];refine v λw=>?_;have:=(w hs).fits
    simp_all
   ·simp only[iF,oh] at e;subst e;have K:=a.ok.mf;refine xq st.aj[i].aI (λ_ d=>∃j∈st.aj,j.Id=d.bj) (λm g l y A=>?_) (λg y=>?_) (by omega)
    ·simp only[cM l,if_true,bW l,Option.bind_some,bT (show m<1000000 by omega)];have L:=a.ok.after _ (bE l);have E:=a.ok.id;refine (QF (by omega) J.bV (id:=st.aj[i].aI[m].bj) (by omega) J.ids).bind λr p=>?_;rw[bo];refine ⟨λe=>?_,λe=>A ?_⟩
     ·rw[aY];refine v λw=>?_;have:=p.1.2 ((w hs).after _ (bE l))
      simp_all
     simp_all
    ·simp only[eU,bX,cn];exact u λ_=>⟨x,Cy y⟩
 ·simp only[eU,bX,cn];exact se h
structure Kg (s:bn) (st:cw):Prop where
 len:(st.nR.length:Int)=s.aR
 use:∀x∈st.nR,0<=x/\x<=1099511627776
 qlen:st.aE.aq.length=s.aq.length
 nodes:0<=st.aE.am/\st.aE.am<=281474976710656
 stamps:∀x∈st.aE.aq,0<=x/\x<=281474976710656
theorem LM(l:List Int)(d:l.length<=300):fY (oE 5000 l) (∀x∈l,0<=x/\x<=1099511627776):=by
 simp only[oE];refine NZ l (λx=>0<=x/\x<=1099511627776) _ (λh=>h) (λi f a Q e g=>?_) (λf h=>?_) (by omega)
 ·simp only[cM a,if_true,bW a,Option.bind_some,bT (show i<1000000 by omega),bo,aY,gp,br]
  grind
 ·simp only[eU,bX,cn];exact se h
theorem Ye{s:bn}{st:cw}(j:lF s st):fY (oH 5000 s st) (Kg s st):=by
 have m:=j.use;have n:=j.stamps;simp only[oH,fQ,zdf,Option.bind_some,if_true];rw[fY,bo];refine ⟨λh=>cS λq=>?_,λh=>?_⟩
 ·simp only[IX,ne_eq] at h;exact h q.len
 ·simp only[IX,ne_eq,TX] at h;refine (LM st.nR (by omega)).bind λr k=>?_;rw[bo];refine ⟨λa=>cS λq=>?_,λa=>?_⟩
  ·have:=k.2 q.use
   simp_all
  ·simp only[iF,oh] at a;rw[bo];refine ⟨λd=>cS λq=>?_,λd=>?_⟩
   ·simp only[IX,ne_eq] at d
    grind [Kg.qlen]
   ·simp only[IX,ne_eq,TX] at d;rw[bo];refine ⟨λe=>cS λq=>?_,λe=>?_⟩
    ·grind [Kg.nodes]
    ·simp only[iF,oh,bG,br] at e;refine NZ st.aE.aq (λx=>0<=x/\x<=281474976710656) _ (λh=>h.stamps) (λi f l Q p t=>?_) (λf g=>?_) (by omega)
     ·simp only[cM l,if_true,bW l,Option.bind_some,bT (show i<1000000 by omega),bo,aY,iF,yB0,yBf]
      grind
     ·simp only[eU,bX,cn];exact se ⟨h,k.1 a,by omega,e,g⟩
theorem ZM(l:List Int)(n:Int)(d:l.length<=300):fY (zeL 5000 l n) ((l.length:Int)=n/\∀x∈l,0<=x/\x<=1099511627776):=by
 simp only[zeL,fQ];refine NZ l (λx=>0<=x/\x<=1099511627776) _ (λh=>h.2) (λi f a Q e g=>?_) (λf h=>?_) (by omega)
 ·simp only[cM a,if_true,bW a,Option.bind_some,bT (show i<1000000 by omega),bo,aY,br]
  grind
 ·simp only[eU,bX,cn,aY,my]
  simp_all
theorem Jw(x:Int):fY (zbf 5000 x) (0<=x/\x<=281474976710656):=by simp only[zbf,fY,aY,bG,br,ge_iff_le]
end Go.Plain
end
section
namespace Go.Plain
open Go.Abs
structure dF (l:List bP):Prop where
 ne:0<l.length
 inc:∀i (h:i+1<l.length),l[i].At<l[i+1].At
 each:∀s∈l,(0<=s.At/\s.At<=281474976710656)/\aL s.cj
theorem dF.lt{l:List bP}(h:dF l):∀{i j:Nat}(s:i<j)(u:j<l.length),l[i].At<l[j].At:=by
 intro i j s u;induction j with
 |zero=>omega
 |succ j ih=>
  have x:=h.inc j u
  grind
theorem dF.le{l:List bP}(h:dF l){i j:Nat}(s:i<=j)(x:j<l.length):l[i].At<=l[j].At:=by
 rcases Xh s with u | u
 ·have:=h.lt u x;omega
 simp_all
theorem dF.idx{l:List bP}(h:dF l){i j:Nat}(u:i<l.length)(x:j<l.length)(e:l[i].At=l[j].At):i=j:=by
 rcases US i j with s | s | s
 ·have:=h.lt s x;omega
 ·exact s
 ·have:=h.lt s u;omega
theorem dF.inj{l:List bP}(h:dF l){a b:bP}(s:a∈l)(u:b∈l)(e:a.At=b.At):a=b:=by
 obtain ⟨i,x,rfl⟩:=km s;obtain ⟨j,z,rfl⟩:=km u;have:=h.idx x z e
 simp_all
def Ha(l:List bP):Int:=l.foldl (λ_ s=>s.At) (-1)
theorem yG{l:List bP}{i:Nat}(h:i<l.length):Ha (l.take (i+1))=l[i].At:=by rw[Fc h,Ha,List.foldl_append];rfl
def PZ(l:List bP)(i:Nat)(s:bP):Prop:=Ha (l.take i)<s.At/\s.At<=281474976710656/\aL s.cj
theorem stOk_of{l:List bP}(e:0<l.length)(h:∀i (a:i<l.length),PZ l i l[i]):dF l:=by
 have d:∀i (h:i+1<l.length),l[i].At<l[i+1].At:=λi a=>by
  have:=(h (i+1) a).1
  grind [yG]
 have f:∀i (a:i<l.length),0<=l[i].At:=by
  intro i;induction i with
  |zero=>intro a;have:=(h 0 a).1;grind [Ha]
  |succ i ih=>grind
 exact ⟨e,d,Cy (A:=λs=>(0<=s.At/\s.At<=281474976710656)/\aL s.cj) λi a=>⟨⟨f i a,(h i a).2.1⟩,(h i a).2.2⟩⟩
theorem dF.cT{l:List bP}(h:dF l)(i:Nat)(j:i<l.length):PZ l i l[i]:=by
 have e:=h.each _ (bE j);refine ⟨?_,e.1.2,e.2⟩
 match i,j with
 |0,j=>grind [Ha]
 |i+1,j=>rw[yG (by omega)];exact h.inc i j
theorem Ln(l:List bP)(t:l.length<=1000):fY (zd1 5000 l) (dF l):=by
 unfold zd1;refine ja l.length (λi x=>x=(Ha (l.take i),(i:Int))/\∀j (n:j<l.length),j<i->PZ l j l[j]) (λi x f a e p=>?_) (λx f e=>?_) ⟨rfl,λj _ h=>by omega⟩ (by omega)
 ·obtain ⟨rfl,s⟩:=e;simp only[fQ];rw[if_pos (cM a),bW a,aD,bo];refine ⟨λh=>?_,λh=>?_⟩
  ·rw[if_pos trivial];refine cS λq=>?_;have:=q.cT i a;simp only[gp,br] at h;have:=this.1;have:=(q.cT i a).2.1;omega
  ·refine (Tu _).bind λr d=>?_;rw[bo];refine ⟨λg=>cS λq=>?_,λg=>?_⟩
   ·have:=d.2 (q.cT i a).2.2
    simp_all
   ·simp only[iF,oh] at g;simp only[gp,br,not_or] at h;rw[bT (show i<1000000 by omega)];refine p _ ⟨by rw[yG a],λj n k=>?_⟩;rcases Xh (yCd.1 k) with m | m
    ·simp_all
    ·subst m;exact ⟨by omega,by omega,d.1 g⟩
 ·obtain ⟨rfl,s⟩:=e;simp only;rw[if_neg (by simp),aY,br]
  grind [stOk_of,dF.ne]
theorem js{l:List bP}(a:l.length<=1000)(h:dF l):zd1 5000 l=some true:=by
 obtain ⟨r,e,d⟩:=Ln l a
 simp_all
structure Idx (l:List bP) (t:Int) (k:Nat):Prop where
 le:k<=l.length
 lo:∀i (h:i<l.length),i<k->l[i].At<=t
 hi:∀i (h:i<l.length),k<=i->t<l[i].At
theorem zcP{l:List bP}(s:l.length<=1000)(hs:dF l)(t:Int):bL (fH 5000 l t) λr=>∃k,Idx l t k/\r=(k:Int)-1:=by
 unfold fH;rw[jD];refine lpM (λx=>∃i j:Nat,x=((i:Int),(j:Int))/\i<=j/\j<=l.length/\(∀k (h:k<l.length),k<i->l[k].At<=t)/\(∀k (h:k<l.length),j<=k->t<l[k].At)) (λx=>(x.2-x.1).toNat) (λx f q e=>?_) ⟨0,l.length,rfl,by omega,by omega,λk h hk=>by omega,λk h hk=>by omega⟩ (by omega);obtain ⟨i,j,rfl,u,g,m,n⟩:=q;rw[bo];dsimp only;refine ⟨λh=>?_,λh=>?_⟩
 ·simp only[br] at h;rw[mid (by omega)];have p:(i+j) / 2<l.length:=by omega
  rw[bW p,aD,aD,bo];refine ⟨λd=>?_,λd=>?_⟩
  ·simp only[iF,yBf] at d;rw[bT (by omega)];refine e _ ⟨(i+j) / 2+1,j,rfl,by omega,g,λk hk a=>?_,n⟩ (by omega);have:=hs.le (show k<=(i+j) / 2 by omega) p;omega
  ·simp only[iF,yBf] at d;refine e _ ⟨i,(i+j) / 2,rfl,by omega,by omega,m,λk hk a=>?_⟩ (by omega);have:=hs.le a hk;omega
 ·simp only[br] at h;have:i=j:=by omega
  subst this;simp only[aY];exact ⟨i,⟨g,m,n⟩,by grind [wr]⟩
theorem Idx.pos{l:List bP}{t:Int}{k:Nat}(h:Idx l t k)(hs:dF l)(i:(l[0]'hs.ne).At<=t):0<k:=by
 rcases Nat.eq_zero_or_pos k with e | e
 ·subst e;have:=h.hi 0 hs.ne (cR _);omega
 omega
def ya(l:List bP)(t:Int)(r:aC):Prop:=∃s∈l,s.At<=t/\(∀a∈l,a.At<=t->a.At<=s.At)/\s.cj=r
theorem ya.Bk{l:List bP}(hs:dF l){t:Int}{r j:aC}(h:ya l t r)(u:ya l t j):r=j:=by obtain ⟨s,x,F,G,rfl⟩:=h;obtain ⟨z,i,A,E,rfl⟩:=u;have:s=z:=hs.inj x i (by grind);rw[this]
theorem ya.ok{l:List bP}(hs:dF l){t:Int}{r:aC}(h:ya l t r):aL r:=by obtain ⟨s,i,_,_,rfl⟩:=h;exact (hs.each s i).2
theorem Idx.vat{l:List bP}{t:Int}{k:Nat}(h:Idx l t (k+1))(hs:dF l)(hk:k<l.length):ya l t l[k].cj:=by
 refine ⟨l[k],bE hk,h.lo k hk (by omega),λs Rm u=>?_,rfl⟩;obtain ⟨i,j,rfl⟩:=km Rm;by_cases q:i<=k
 ·exact hs.le q hk
 ·have:=h.hi i j (by omega);omega
end Go.Plain
end
section
namespace Go.Plain
open Go.Abs
structure FH (L:List aC) (r:aC):Prop where
 le:∀v∈L,∀c,cmp c r<=cmp c v
 cT:∀c,∃v∈L,cmp c v=cmp c r
def uI(a b:aC):aC:={ bK:=if b.bK<a.bK then b.bK else a.bK,Mem:=if b.Mem<a.Mem then b.Mem else a.Mem,bM:=if b.bM<a.bM then b.bM else a.bM,bO:=if b.bO<a.bO then b.bO else a.bO }
theorem Gm(c:Nat)(a b:aC):cmp c (uI a b)=if cmp c b<cmp c a then cmp c b else cmp c a:=by match c with | 0=>rfl | 1=>rfl | 2=>rfl | _+3=>rfl
theorem Yo(a b:aC):zcG 5000 a b=some (uI a b):=by
 have d:∀x y:Int,zb8 5000 x y=some (if y<x then y else x):=λx y=>by
  unfold zb8
  grind
 simp only[zcG,d,Option.bind_some,uI]
theorem FH.one(v:aC):FH [v] v:=⟨λw i c=>by simp_all,λc=>⟨v,by simp,rfl⟩⟩
theorem FH.add{L:List aC}{r:aC}(h:FH L r)(v:aC):FH (L++[v]) (uI r v):={
 le:=λw hw c=>by
  rw[Gm];rcases mQ.1 hw with hw | hw
  ·have:=h.le w hw c;omega
  grind
 cT:=λc=>by
  rw[Gm];split
  ·simp_all
  ·obtain ⟨w,hw,e⟩:=h.cT c;grind }
structure NU (V:Int->aC->Prop) (a b:Int) (r:aC):Prop where
 le:∀t v,a<=t->t<b->V t v->∀c,cmp c r<=cmp c v
 cT:∀c,∃t v,a<=t/\t<b/\V t v/\cmp c v=cmp c r
theorem NU.Bk{V:Int->aC->Prop}{a b:Int}{r u:aC}(h:NU V a b r)(x:NU V a b u):r=u:=dU λc=>by obtain ⟨t,v,z,A,E,e⟩:=h.cT c;obtain ⟨F,G,i,j,s,K⟩:=x.cT c;have:=h.le F G i j s c;have:=x.le t v z A E c;omega
theorem NU.iff{V W:Int->aC->Prop}{a b:Int}{r:aC}(h:NU V a b r)(u:∀t v,a<=t->(V t v↔W t v)):NU W a b r:=
 ⟨λt v i j s=>h.le t v i j ((u t v i).2 s),λc=>by obtain ⟨t,v,i,j,s,e⟩:=h.cT c;grind⟩
theorem jZ{α:Type}{l:List α}{i:Nat}(h:i<=l.length):slice? l (i:Int) (l.length:Int)=some (l.drop i):=by
 unfold slice?
 simp_all
theorem Kw{l:List bP}(A:l.length<=1000)(hs:dF l){a b:Int}(E:(l[0]'hs.ne).At<=a)(u:a<b):bL (oC 5000 l a b) (NU (ya l) a b):=by
 unfold oC;simp only[fQ];rw[js A hs,aD,if_neg (by simp)];rw[show (0:Int)=((0:Nat):Int) from rfl,bW hs.ne,aD,if_neg (by simp_all)];refine (zcP A hs a).bind λr y=>?_;obtain ⟨k,hk,rfl⟩:=y;have W:=hk.pos hs E;have F:=hk.le;obtain ⟨m,rfl⟩:∃m,k=m+1:=⟨k-1,by omega⟩;rw[show ((m+1:Nat):Int)-1=(m:Int) by omega,bW (show m<l.length by omega),aD,bT (by omega),jZ (by omega),aD];have fin:∀(n:Nat)(v:aC),n<=(l.drop (m+1)).length->(∀(j:Nat)(h:j<(l.drop (m+1)).length),j<n->(l.drop (m+1))[j].At<b)->(∀(j:Nat)(h:j<(l.drop (m+1)).length),n<=j->b<=(l.drop (m+1))[j].At) ->
   FH (l[m].cj::((l.drop (m+1)).take n).map (·.cj)) v->NU (ya l) a b v:=λn v Y G Z d=>by
  have len:(l.drop (m+1)).length=l.length-(m+1):=yBK ..;refine ⟨λt w ht K hw c=>?_,λc=>?_⟩
  ·obtain ⟨s,L,q2,M,rfl⟩:=hw;obtain ⟨i,q,rfl⟩:=km L;have hm:=M l[m] (bE _) (by have:=hk.lo m (by omega) (by omega);omega);refine d.le _ ?_ c;by_cases e:i=m
   ·simp_all
   ·have N:m<i:=by
     rcases US i m with h | h | h
     ·have:=hs.lt h (by omega);omega
     ·omega
     omega
    have O:i-(m+1)<n:=by grind
    refine oD _ (iT.2 ⟨l[i],?_,rfl⟩)
    grind [List.mem_iff_getElem]
  ·obtain ⟨w,hw,e⟩:=d.cT c;rcases gn.1 hw with rfl | hw
   ·exact ⟨a,_,OF _,u,hk.vat hs (by omega),e⟩
   ·obtain ⟨s,Rm,rfl⟩:=iT.1 hw;obtain ⟨j,g,rfl⟩:=NF.1 Rm;rw[BY] at g;rw[Ss] at e Rm;have p:=G j (by omega) (by omega);rw[yBT] at e p;have ha:=hk.hi (m+1+j) (by omega) (by omega);refine ⟨l[m+1+j].At,_,by omega,p,⟨l[m+1+j],bE _,OF _,λs' _ h=>h,rfl⟩,e⟩
 refine ja (l.drop (m+1)).length (λi x=>∃v:aC,x=((i:Int),v.bK,v.Mem,v.bM,v.bO)/\FH (l[m].cj::((l.drop (m+1)).take i).map (·.cj)) v/\∀j (h:j<(l.drop (m+1)).length),j<i->(l.drop (m+1))[j].At<b) (λi x f q z y=>?_) (λx f z=>?_)
  ⟨l[m].cj,rfl,FH.one _,λj _ h=>by omega⟩ (by grind)
 ·obtain ⟨v,rfl,d,p⟩:=z;have S:m+1+i<l.length:=by grind
  dsimp only;rw[if_pos (cM q),bW q,aD,bo];refine ⟨λh=>?_,λh=>?_⟩
  ·simp only[br] at h;rw[aY];refine fin i v (yCa q) p (λj g T=>?_) d;rw[yBT] at h ⊢;have:=hs.le (show m+1+i<=m+1+j by omega) (by grind);omega
  ·simp only[br] at h;rw[show ∀b,AZ 5000 ({ bK:=v.bK,Mem:=v.Mem,bM:=v.bM,bO:=v.bO }:aC) b=some (uI v b) from λb=>rfl,aD,bT (show i<1000000 by omega)];refine y _ ⟨uI v (l.drop (m+1))[i].cj,rfl,?_,λj g U=>?_⟩
   ·rw[Fc q,yB8,<-List.cons_append];exact d.add _
   grind
 ·obtain ⟨v,rfl,d,p⟩:=z;dsimp only;rw[if_neg (by simp),aY];exact fin _ v (cR _) (λj g h=>p j g h) (λj g h=>by omega) d
structure Kept (l r:List bP):Prop where
 ok:dF r
 len:r.length<=l.length
 first:∀(h:0<l.length)(h':0<r.length),r[0].At=l[0].At
 sub:∀s∈r,s∈l
 val:∀t v,ya l t v->ya r t v
theorem dZ{l:List bP}{i:Nat}(a:i<l.length){s:bP}:s∈l.take (i+1)↔s∈l.take i∨s=l[i]:=by rw[Fc a,mQ,Bl]
theorem ya.take{l:List bP}{i:Nat}(x:i<l.length)(hs:dF l){t:Int}{v:aC}(h:ya (l.take (i+1)) t v):(l[i].At<=t/\v=l[i].cj)∨(t<l[i].At/\ya (l.take i) t v):=by
 obtain ⟨s,z,A,u,rfl⟩:=h;rw[Fc x] at z u;by_cases q:l[i].At<=t
 ·left;refine ⟨q,?_⟩;have E:=u l[i] (yBz _ (Bl.2 rfl)) q;rcases mQ.1 z with h | h
  ·obtain ⟨j,F,rfl⟩:=NF.1 h;rw[BY] at F;rw[Ss] at E ⊢;have:=hs.lt (show j<i by omega) x;omega
  simp_all
 ·right;refine ⟨by omega,s,?_,A,λG K=>u G (yB4 _ K),rfl⟩
  grind
theorem WF{l:List bP}(hs:dF l){s:bP}(h:∀x∈l,x.At<s.At)(f:(0<=s.At/\s.At<=281474976710656)/\aL s.cj):dF (l++[s]):=by
 have:=hs.ne;refine ⟨by simp,λi d=>?_,λx a=>?_⟩
 ·rw[AW,List.length_singleton] at d;rw[yCb (show i<l.length by omega)];by_cases e:i+1<l.length
  ·rw[yCb e];exact hs.inc i e
  simp_all
 ·rcases mQ.1 a with a | a
  ·exact hs.each x a
  simp_all
theorem Km{l:List bP}(G:l.length<=1000)(hs:dF l):bL (oA 5000 l) (Kept l):=by
 have m:=hs.ne;unfold oA;rw[js G hs,aD,if_neg (by simp)];rw[show (0:Int)=((0:Nat):Int) from rfl,bW m,aD];rw[show slice? l 1 (l.length:Int)=some (l.drop 1) from jZ m,aD];have S:(l.drop 1).length=l.length-1:=yBK ..;refine ja (l.drop 1).length (λi x=>x.1=(i:Int)/\Kept (l.take (i+1)) x.2/\∃(h:0<x.2.length)(z:i<l.length),x.2[x.2.length-1].cj=l[i].cj) (λi x f z r T=>?_) (λx f r=>?_) ?_ (by omega)
 ·obtain ⟨y,a⟩:=x;obtain ⟨rfl,hk,g,A,d⟩:=r;dsimp only at hk g d ⊢;have k:i+1<l.length:=by omega
  have u:=hk.len;rw[BY] at u;have L:(l.drop 1)[i]=l[i+1]:=by simp_all
  simp only[fQ];rw[if_pos (cM z),bW z,aD,L,wr (x:=(a.length:Int)-1) (by omega) (by omega),show (a.length:Int)-1=((a.length-1:Nat):Int) by omega,bW (show a.length-1<a.length by omega),aD,bT (show i<1000000 by omega),d];have n:∀x∈a,x.At<l[i+1].At:=λx r=>by have:=hk.sub x r;obtain ⟨j,E,rfl⟩:=NF.1 this;rw[BY] at E;rw[Ss];exact hs.lt (by omega) k
  rw[bo];refine ⟨λh=>?_,λh=>?_⟩
  ·rw[Ap (by grind),aD];have K:Kept (l.take (i+1+1)) (a++[l[i+1]]):=by
    refine ⟨WF hk.ok n (hs.each _ (bE _)),by grind,λh w=>?_,λs Rm=>?_,λt v p=>?_⟩
    ·have:=hk.first (by grind) g
     simp_all
    ·rcases mQ.1 Rm with q | q
     ·exact (dZ k).2 (.inl (hk.sub s q))
     grind [dZ]
    ·rcases p.take k hs with ⟨q,rfl⟩ | ⟨q,p⟩
     ·exact ⟨l[i+1],yBz _ (Bl.2 rfl),q,λF w _=>by grind,rfl⟩
     ·obtain ⟨s,M,N,U,O⟩:=hk.val t v p;exact ⟨s,yB4 _ M,N,λF w W=>by grind,O⟩
   simp_all
  ·have e:l[i+1].cj=l[i].cj:=by
    simp only[iF,oh] at h;simp only[bP.beq,bG,my,gC] at h
    simp_all
   have K:Kept (l.take (i+1+1)) a:=by
    refine ⟨hk.ok,by grind,λh w=>?_,λs Rm=>(dZ k).2 (.inl (hk.sub s Rm)),λt v p=>?_⟩
    ·have:=hk.first (by grind) g
     simp_all
    ·rcases p.take k hs with ⟨q,rfl⟩ | ⟨q,p⟩
     ·refine ⟨a[a.length-1],bE _,by grind,λF w _=>?_,by simp_all⟩;obtain ⟨j,E,rfl⟩:=km w;exact hk.ok.le (by omega) (by omega)
     ·exact hk.val t v p
   simp_all
 ·obtain ⟨y,a⟩:=x;obtain ⟨rfl,hk,g,A,d⟩:=r;dsimp only at hk ⊢;rw[if_neg (by simp),aY]
  grind
 ·have e:l.take 1=[l[0]]:=by grind [List.take_succ_eq_append_getElem]
  refine ⟨rfl,?_,by simp,m,rfl⟩;rw[Ry,e];refine ⟨⟨by simp,λi h=>by simp at h,λs h=>by simp at h;subst h;exact hs.each _ (bE _)⟩,by simp,λ_ _=>rfl,λs h=>h,λt v h=>h⟩
end Go.Plain
end
section
namespace Go.Plain
open Go.Abs
theorem dF.pw{l:List bP}(h:dF l):l.Pairwise λa b=>a.At<b.At:=yAZ.2 λi j x u s=>h.lt s u
theorem stOk_pw{l:List bP}(d:0<l.length)(h:l.Pairwise λa b=>a.At<b.At)(e:∀s∈l,(0<=s.At/\s.At<=281474976710656)/\aL s.cj):dF l:=
 ⟨d,λi f=>yAZ.1 h i (i+1) (by omega) f (by omega),e⟩
theorem ya.ex{l:List bP}(hs:dF l){t:Int}(x:(l[0]'hs.ne).At<=t):∃v,ya l t v:=by
 have:∀n,0<n->n<=l.length->∃v,ya (l.take n) t v:=by
  intro n;induction n with
  |zero=>omega
  |succ n ih=>
   intro _ K;rcases Nat.eq_zero_or_pos n with rfl | z
   ·refine ⟨l[0].cj,l[0],?_,x,λu i _=>?_,rfl⟩
    ·grind [dZ]
    ·rcases (dZ (show 0<l.length by omega)).1 i with i | e
     ·grind
     simp_all
   ·obtain ⟨v,s,A,E,M,F⟩:=ih z (by omega);by_cases q:l[n].At<=t
    ·refine ⟨l[n].cj,l[n],(dZ (by omega)).2 (.inr rfl),q,λu i _=>?_,rfl⟩;rcases (dZ (show n<l.length by omega)).1 i with i | e
     ·obtain ⟨j,G,rfl⟩:=NF.1 i;rw[BY] at G;rw[Ss];exact hs.le (by omega) (by omega)
     simp_all
    ·refine ⟨v,s,(dZ (by omega)).2 (.inl A),E,λu i O=>?_,F⟩
     grind [dZ]
 have:=this l.length hs.ne (cR _)
 simp_all
theorem insS_ok{l:List bP}(a:l.length<=2000)(x:bP){k:Nat}(hk:k<=l.length):zaS 5000 l [x] (k:Int)=some (l.take k++[x]++l.drop k):=by
 unfold zaS zaA;rw[jZ hk,aD,if_neg (by simp)];by_cases e:k=l.length
 ·subst e;rw[if_pos (by simp),Ap (by grind),aD];simp[orE]
 ·rw[if_neg (by grind)];unfold orE Kr
  grind
structure CutOk (l:List bP) (t:Int) (r:List bP):Prop where
 ok:dF r
 len:r.length<=l.length+1
 first:∀(h:0<l.length)(h':0<r.length),r[0].At=l[0].At
 val:∀u v,ya l u v->ya r u v
 cT:∃s∈r,s.At=t
 Vd:∀s∈l,s∈r
theorem lr{l:List bP}(A:l.length<=1000)(hs:dF l){t:Int}(E:(l[0]'hs.ne).At<=t)(W:t<=281474976710656):bL (qH 5000 l t) (CutOk l t):=by
 unfold qH;refine (zcP A hs t).bind λr F=>?_;obtain ⟨k,hk,rfl⟩:=F;have Y:=hk.pos hs E;have i:=hk.le;obtain ⟨m,rfl⟩:∃m,k=m+1:=⟨k-1,by omega⟩;have d:m<l.length:=by omega
 unfold zaW;rw[show ((m+1:Nat):Int)-1=(m:Int) by omega,Ft (by omega),aD,bW d,aD,bo];refine ⟨λh=>?_,λh=>?_⟩
 ·simp only[my] at h;exact aY.2 ⟨hs,by omega,λ_ _=>rfl,λu v h=>h,⟨_,bE d,h⟩,λs h=>h⟩
 ·simp only[my] at h;have G:=hk.lo m d (by omega);have Z:=hs.each _ (bE d);rw[aD,bT (show m<1000000 by omega),insS_ok (by omega) _ i,aD,aY];generalize hx:({ At:=t,cj:=l[m].cj }:bP)=x;have K:x.At=t:=by grind
  have L:x.cj=l[m].cj:=by grind
  have hA:∀s∈l.take (m+1),s.At<t:=λs Rm=>by obtain ⟨j,e,rfl⟩:=NF.1 Rm;rw[BY] at e;rw[Ss];have:=hs.le (show j<=m by omega) d;omega
  have hB:∀s∈l.drop (m+1),t<s.At:=λs Rm=>by obtain ⟨j,e,rfl⟩:=NF.1 Rm;rw[yBK] at e;rw[yBT];exact hk.hi _ (by omega) (by omega)
  have n:l=l.take (m+1)++l.drop (m+1):=(NL ..).symm;have f:=hs.pw;rw[n] at f;obtain ⟨p1,M,p3⟩:=NR.1 f;have mem:∀s,s∈l.take (m+1)++[x]++l.drop (m+1)↔s∈l∨s=x:=λs=>by
   constructor
   ·grind
   grind
  refine ⟨stOk_pw (by grind) (NR.2 ⟨NR.2 ⟨p1,by simp,λa N b O=>?_⟩,M,λa N b O=>?_⟩) λs h=>?_,?_,λh p=>?_,λu v S=>?_,⟨x,(mem x).2 (.inr rfl),K⟩,λs h=>(mem s).2 (.inl h)⟩
  ·grind
  ·grind
  ·rcases (mem s).1 h with h | rfl
   ·exact hs.each s h
   grind
  ·grind
  ·grind
  ·obtain ⟨s,g,w,T,rfl⟩:=S;by_cases q:t<=u
   ·have U:=T l[m] (bE d) (by omega);by_cases q2:s.At<t
    ·have:s=l[m]:=by
      obtain ⟨j,e,rfl⟩:=km g;have:j<=m:=by
       rcases si m j with h | h
       ·have:=hk.hi j e (by omega);omega
       omega
      have:=hs.le this d;exact hs.inj g (bE d) (by omega)
     subst this;exact ⟨x,(mem x).2 (.inr rfl),by omega,λy p z=>by grind,L⟩
    ·exact ⟨s,(mem s).2 (.inl g),w,λy p z=>by grind,rfl⟩
   ·exact ⟨s,(mem s).2 (.inl g),w,λy p z=>by grind,rfl⟩
theorem YT:kB=qH:=rfl
def ve(out:List bP)(need:aC)(lo a:Nat):List bP:=out.mapIdx λj s=>if lo<=j/\j<a then { At:=s.At,cj:=fj s.cj need } else s
theorem RP{out:List bP}{need:aC}{lo a:Nat}:(ve out need lo a).length=out.length:=by simp[ve]
theorem jV{out:List bP}{need:aC}{lo a j:Nat}(h:j<(ve out need lo a).length):(ve out need lo a)[j]=if lo<=j/\j<a then { At:=(out[j]'(by grind [RP])).At,cj:=fj (out[j]'(by grind [RP])).cj need } else out[j]'(by grind [RP]):=by grind [ve]
theorem vF{out:List bP}{need:aC}{lo a j:Nat}(h:j<(ve out need lo a).length):(ve out need lo a)[j].At=(out[j]'(by grind [RP])).At:=by grind [jV]
theorem Yh(out:List bP)(need:aC)(lo:Nat):ve out need lo lo=out:=yBW RP λj a d=>by rw[jV,if_neg (by omega)]
theorem Wb{out:List bP}{need:aC}{lo i:Nat}(h:lo+i<out.length):(ve out need lo (lo+i)).set (lo+i) { At:=out[lo+i].At,cj:=fj out[lo+i].cj need }=ve out need lo (lo+(i+1)):=yBW (by simp[RP]) λj a d=>by
 rw[List.getElem_set];split
 ·rename_i e;subst e;rw[jV,if_pos ⟨by omega,by omega⟩]
 ·rw[jV,jV]
  grind
def xe(a b:aC):Prop:=∀c,cmp c a<=cmp c b
theorem aab{a b:aC}(d:aL a)(e:aL b)(h:xe b a):aL (fj a b):=vB.2 λc=>by have:=vB.1 d c;have:=vB.1 e c;have:=h c;rw[B_];omega
structure Ps (l:List bP) (a b:Int) (need:aC) (r:List bP):Prop where
 ok:dF r
 len:r.length<=l.length+2
 first:∀(h:0<l.length)(h':0<r.length),r[0].At=l[0].At
 val:∀t v,ya l t v->ya r t (if a<=t/\t<b then fj v need else v)
theorem xx{l:List bP}(hl:l.length<=900)(hs:dF l){a b:Int}{need:aC}(L:aL need)(h0:(l[0]'hs.ne).At<=a)(ab:a<b)(hb:b<=281474976710656)
  (u:∀t v,a<=t->t<b->ya l t v->xe need v):bL (mW 5000 l a b need) λr=>r.2=0/\Ps l a b need r.1:=by
 unfold mW zdX;have w:=hs.ne;obtain ⟨rn,en,M⟩:=Tu need;have:=M.2 L;subst this;simp only[fQ];rw[js (by omega) hs,aD,if_neg (by simp),en,aD,if_neg (by simp)];rw[show (0:Int)=((0:Nat):Int) from rfl,bW w,aD,if_neg (by simp_all),YT];rw[jD];refine (lr (by omega) hs h0 (by omega)).bind λo1 c1=>?_;have W:=c1.ok.ne;have f1:=c1.first w W;have l1:=c1.len;refine (lr (by omega) c1.ok (t:=b) (by omega) hb).bind λout g=>?_;have n2:=g.ok.ne;have f2:=g.first W n2;have l2:=g.len;obtain ⟨sa,N,ad⟩:=c1.cT;obtain ⟨d,m,af⟩:=km (g.Vd sa N);obtain ⟨sb,O,ak⟩:=g.cT;obtain ⟨e,he,eb⟩:=km O;have aa:out[d].At=a:=by simp_all
 have bb:out[e].At=b:=by simp_all
 have val:∀t v,ya l t v->ya out t v:=λt v h=>g.val t v (c1.val t v h);have S:∀j (h:j<out.length),a<=out[j].At->out[j].At<b->aL (fj out[j].cj need):=λj h y A=>by obtain ⟨v,E⟩:=ya.ex hs (t:=out[j].At) (by omega);have:=(val _ _ E).Bk g.ok ⟨out[j],bE h,OF _,λs' _ h=>h,rfl⟩;subst this;exact aab (E.ok hs) L (u _ _ y A E)
 refine (zcP (by omega) g.ok a).bind λr p=>?_;obtain ⟨k,hk,rfl⟩:=p;have hp:=hk.pos g.ok (by omega);have an:=hk.le;have hm:k=d+1:=by
  rcases US k (d+1) with h | h | h
  ·have:=hk.hi d m (by omega);omega
  ·exact h
  ·have:=hk.lo (k-1) (by omega) (by omega);have:=g.ok.lt (show d<k-1 by omega) (by omega);omega
 subst hm;have av:d<e:=by
  rcases US d e with h | h | h
  ·exact h
  ·simp_all
  ·have:=g.ok.lt h m;omega
 rw[show ((d+1:Nat):Int)-1=(d:Int) by omega];have mid:∀j (h:j<out.length),d<=j->j<e->a<=out[j].At/\out[j].At<b:=λj h y A=>by have:=g.ok.le y h;have:=g.ok.lt A he;omega
 refine ja (e-d) (λi x=>x=(((d+i:Nat):Int),ve out need d (d+i))) (λi x f hi T p=>?_) (λx f T=>?_) (by rw[Nat.add_zero,Yh]) (by omega)
 ·subst T;have n:d+i<out.length:=by omega
  obtain ⟨y,A⟩:=mid (d+i) n (by omega) (by omega);have F:(ve out need d (d+i))[d+i]'(by grind [RP])=out[d+i]:=by rw[jV,if_neg (by omega)]
  dsimp only;rw[bW (show d+i<(ve out need d (d+i)).length by grind),aD,F,if_pos (by simp_all),aD];refine (Ym (g.ok.each _ (bE n)).2 L).bind λr G=>?_;have z:=G.1.2 (S _ n y A);rw[if_neg (by simp[z]),aD,G.2 z,bT (show d+i<1000000 by omega)]
  grind [Wb]
 ·subst T;rw[show d+(e-d)=e by omega];dsimp only;rw[bW (show e<(ve out need d e).length by grind [RP]),aD,vF,if_neg (by simp_all)];have Y:dF (ve out need d e):=by
   refine ⟨by grind [RP],λi h=>?_,λs h=>?_⟩
   ·rw[vF,vF];exact g.ok.inc i (by grind [RP])
   ·obtain ⟨j,n,rfl⟩:=km h;have K:=n;rw[RP] at K;have ej:=g.ok.each _ (bE K)
    grind [jV]
  refine (Km (by grind [RP]) Y).bind λr p=>?_;rw[aY,aY];have rl:=p.len;rw[RP] at rl;refine ⟨rfl,p.ok,by grind,λh Z=>?_,λt v E=>p.val _ _ ?_⟩
  ·have:=p.first Y.ne Z
   grind [vF]
  ·obtain ⟨s,h1,h2,h3,rfl⟩:=val t v E;obtain ⟨j,n,rfl⟩:=km h1;have U:j<(ve out need d e).length:=by grind [RP]
   refine ⟨(ve out need d e)[j],bE U,by grind [vF],λs' Z ht=>?_,?_⟩
   ·grind [List.getElem_of_mem,vF]
   ·rw[jV];have ka:a<=t↔d<=j:=by
     constructor
     ·intro h;have:=h3 out[d] (bE m) (by omega);rcases si j d with q | q
      ·have:=g.ok.lt q m;omega
      omega
     ·intro h;have:=g.ok.le h n;omega
    have kb:t<b↔j<e:=by
     constructor
     ·intro h;rcases si j e with q | q
      ·exact q
      ·have:=g.ok.le q n;omega
     grind
    grind
end Go.Plain
end
