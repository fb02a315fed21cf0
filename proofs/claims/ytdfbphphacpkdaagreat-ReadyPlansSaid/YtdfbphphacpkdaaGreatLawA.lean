/- TyP1, TyP2, TyP3, TyP4, TyP5, TyP6, TyP7, TyL1, TyL2 -/
import Derived.Test.YtdfbphphacpkdaaGreatTyPure
import Derived.KernelRfl
import Derived.Laws.BitsLemmas
set_option linter.all false
section
namespace Go.Plain
open Go.Abs
instance glT:Gl:={ ok:=λ_ _=>True,mono:=λ_ _=>trivial }
theorem wr{x:Int}(a:-9223372036854775808<=x)(d:x<9223372036854775808):IntKind.i64.wrap x=x:=by rw[IntKind.wrap_i64];omega
theorem bJ{i:Nat}(h:i<1000000):IntKind.i64.wrap ((i:Int)+1)=((i+1:Nat):Int):=by rw[wr (by omega) (by omega)];rfl
theorem wp1{i:Nat}(h:i+1<1000000):IntKind.i64.wrap (((i+1:Nat):Int)-1)=(i:Int):=by rw[wr (by omega) (by omega)];omega
theorem bN{α:Type}{l:List α}{i:Nat}(h:i<l.length):aB l (i:Int)=some l[i]:=by unfold aB;rw[if_pos ⟨by omega,by omega⟩];simp[h]
theorem ff{α:Type}{l:List α}{x:Int}(d:0<=x)(h:x<l.length):∃a:x.toNat<l.length,aB l x=some (l[x.toNat]'a):=by
 have a:x.toNat<l.length:=by omega
 refine ⟨a,?_⟩;unfold aB;rw[if_pos ⟨d,h⟩,cT a]
theorem cD{i n:Nat}(h:i<n):decide ((i:Int)<(n:Int))=true:=by simp;omega
theorem dX{n:Nat}:decide ((n:Int)<(n:Int))=false:=by simp
theorem Bw{α:Type}{l m:List α}(h:l.length+m.length<=1000000):cf l m=some (l++m):=by unfold cf;rw[if_pos h]
theorem Gt{α:Type}{m:List α}(h:m.length<=1000000):cf [] m=some m:=by rw[Bw (by simpa using h)];rfl
theorem il{X R:Type}(r:X->Option R)(b:(X->Option R)->Option R):jn r b=b r:=rfl
def bY{β:Type}(o:Option β)(Q:β->Prop):Prop:=∃r,o=some r/\Q r
abbrev fB(o:Option Bool)(P:Prop):Prop:=bY o λb=>b=true↔P
section
variable{α β γ σ:Type}{o:Option α}{P Q:α->Prop}
theorem bY.mono(h:bY o P)(i:∀r,P r->Q r):bY o Q:=by obtain ⟨r,j,s⟩:=h;exact ⟨r,j,i r s⟩
theorem bY.bind{f:α->Option β}{R:β->Prop}(h:bY o P)(i:∀r,P r->bY (f r) R):bY (o.bind f) R:=by obtain ⟨r,rfl,j⟩:=h;exact i r j
theorem aV{r:α}:bY (some r) Q↔Q r:=by simp[bY]
theorem nJ{f:α->Option β}{R:β->Prop}:bY (o.bind f) R↔bY o λr=>bY (f r) R:=by cases o <;> simp[bY]
theorem aZ{c:Prop}[Decidable c]{a b:Option α}:bY (if c then a else b) Q↔(c->bY a Q)/\(¬c->bY b Q):=by by_cases h:c <;> simp[h]
theorem bY.eq{r:α}(h:bY o λx=>x=r):o=some r:=by obtain ⟨_,h,rfl⟩:=h;exact h
end
section
variable{X R α:Type}{b:(X->Option R)->X->Option R}{Q:R->Prop}
theorem jA(n:Nat)(Inv:Nat->X->Prop)(hs:∀i x f,i<n->Inv i x->(∀d,Inv (i+1) d->bY (f d) Q)->bY (b f x) Q)
  (l:∀x f,Inv n x->bY (b f x) Q) {e:X} (m:Inv 0 e) {N:Nat} (q:n<N):bY (bo b N e) Q:=by
 have:∀k i x,i<=n->n<i+k->Inv i x->bY (bo b k x) Q:=by
  intro k;induction k with
  |zero=>intro i x h p;omega
  |succ k ih=>
   intro i x h p j;rcases Dx h with a | rfl
   ·exact hs i x _ a j λd g=>ih (i+1) d a (by omega) g
   ·exact l x _ j
 exact this N 0 e (KZ _) (by omega) m
end
section
variable{R α:Type}{b:(Int->Option R)->Int->Option R}{Q:R->Prop}
theorem um (l:List α) (A:Nat→α→Prop)
  (hs:∀i (f:Int→Option R) (h:i<l.length),(∀j (a:j<l.length),j<i→A j l[j])→(A i l[i]→bY (f ((i+1:Nat):Int)) Q)→bY (b f (i:Int)) Q)
  (m:∀f,(∀j (a:j<l.length),A j l[j])→bY (b f (l.length:Int)) Q) {N:Nat} (n:l.length<N):bY (bo b N 0) Q:=
 jA l.length (fun i x=>x=(i:Int)∧∀j (a:j<l.length),j<i→A j l[j])
  (fun i x f p ⟨e,d⟩ q=>by
   subst e
   exact hs i f p d fun h=>q _ ⟨rfl,fun j a g=>by
    rcases Dx (Kv.1 g) with k | k
    ·exact d j a k
    ·subst k; exact h⟩)
  (fun x f ⟨e,d⟩=>by subst e; exact m f fun j a=>d j a a) ⟨rfl,fun j a h=>absurd h (by omega)⟩ n
end
theorem BZ{α:Type}{l:List α}{A:α->Prop}(h:∀j (f:j<l.length),A l[j]):∀a∈l,A a:=λa d=>by obtain ⟨i,e,rfl⟩:=jj d;exact h i e
theorem Oz{α:Type}{b:(Int->Option Bool)->Int->Option Bool}(l:List α)(A:α->Prop)(P:Prop)(d:P->∀a∈l,A a)
  (hs:∀(i:Nat)(f:Int->Option Bool)(h:i<l.length)(Q:Bool->Prop),(A l[i]->bY (f ((i+1:Nat):Int)) Q)->(¬A l[i]->Q false)->bY (b f (i:Int)) Q)
  (e:∀f,(∀a∈l,A a)->fB (b f (l.length:Int)) P) {N:Nat} (g:l.length<N):fB (bo b N 0) P:=
 um l (λ_ a => A a) (λi f h _ j => hs i f h _ j λk => by
   simp only[bA,zj];exact λp=>k (d p _ (bn h)))
  (λf h=>e f (BZ h)) g
structure oV (s:bq):Prop where
 nodes:s.aq.length<=40
 parts:s.aF.length<=20
 fQ:s.am.length<=20
 part:∀p∈s.aF,p.length<=40
 queue:∀q∈s.am,q.aU.length<=40
theorem few07(s:bq):bY (zer 5000 s) λr=>r=true->oV s:=by
 simp only[zer,aZ,aV];refine ⟨by simp,λh=>?_⟩;simp only[dZ,aQ,not_or,Int.not_lt] at h;obtain ⟨⟨g,j⟩,k⟩:=h;refine um s.aF (λ_ q=>q.length<=40) (λi f h _ a=>?_) (λf d=>?_) (by omega)
 ·simp only[cD h,if_true,bN h,Option.bind_some,bJ (show i<1000000 by omega),aZ,aV,aQ];exact ⟨by simp,λh=>a (by omega)⟩
 ·simp only[dX,bA,bT];refine um s.am (λ_ q=>q.aU.length<=40) (λi f h _ a=>?_) (λf e=>?_) (by omega)
  ·simp only[cD h,if_true,bN h,Option.bind_some,bJ (show i<1000000 by omega),aZ,aV,aQ];exact ⟨by simp,λh=>a (by omega)⟩
  ·simp only[dX,bA,bT,aV];exact λ_=>⟨by omega,by omega,by omega,BZ d,BZ e⟩
theorem few17(l:List a_):bY (zeo 5000 l) λr=>r=true->l.length<=30/\∀j∈l,j.aP.length<=10:=by
 simp only[zeo,aZ,aV];refine ⟨by simp,λh=>?_⟩;simp only[aQ] at h;refine um l (λ_ q=>q.aP.length<=10) (λi f h _ a=>?_) (λf d=>?_) (by omega)
 ·simp only[cD h,if_true,bN h,Option.bind_some,bJ (show i<1000000 by omega),aZ,aV,aQ];exact ⟨by simp,λh=>a (by omega)⟩
 ·simp only[dX,bA,bT,aV];exact λ_=>⟨by omega,BZ d⟩
structure lF (s:bq) (st:cM):Prop where
 spec:oV s
 cC:st.aw.length<=300
 after:∀j∈st.aw,j.aP.length<=10
 cu:st.ai.length<=300
 dy:st.ay.length<=20
 use:st.uU.length<=20
 stamps:st.aS.am.length<=20
 shares:∀a∈st.ai,a.ah.length<=40
theorem lF.sh{s:bq}{st:cM}(h:lF s st):∀a∈st.ai,a.ah.length<=300:=λa i=>jz (h.shares a i) (by decide)
theorem few23(s:bq)(st:cM):bY (zcp 5000 s st) λr=>r=true->lF s st:=by
 simp only[zcp,il];refine (few07 s).bind λr a=>?_;simp only[if_true,aV,aZ];refine ⟨by simp,λh=>?_⟩;refine (few17 st.aw).bind λk d=>?_;simp only[eS,lN] at h;have g:=a h;simp only[aZ,aV];refine ⟨by simp,λh=>?_⟩;simp only[dZ,aQ,not_or,Int.not_lt,eS,lN] at h;obtain ⟨⟨⟨⟨h,l⟩,m⟩,n⟩,p⟩:=h;have e:=d h;refine um st.ai (λ_ q=>q.ah.length<=40) (λi f h _ a=>?_) (λf j=>?_) (by omega)
 ·simp only[cD h,if_true,bN h,Option.bind_some,bJ (show i<1000000 by omega),aZ,aV,aQ];exact ⟨by simp,λh=>a (by omega)⟩
 ·simp only[dX,bA,bT,aV];exact λ_=>⟨g,jz e.1 (by decide),e.2,by omega,by omega,by omega,by omega,BZ j⟩
def Nd(lo a x:Int):Bool:=decide (lo<=x)&&decide (x<=a)
structure aK (r:aA):Prop where
 Ex:0<=r.br/\r.br<=1048576
 mem:0<=r.Mem/\r.Mem<=1048576
 Hd:0<=r.bx/\r.bx<=1048576
 IC:0<=r.bD/\r.bD<=1048576
theorem wN(r:aA):fB (VY 5000 r) (aK r):=by simp only[VY,zbO,aV,Option.bind_some,aZ,bp,aQ,bA,zj,fB];refine ⟨λa=>⟨λd=>⟨λe=>⟨λf=>⟨a,d,e,f⟩,λh=>h.IC⟩,λe h=>e h.Hd⟩,λd h=>d h.mem⟩,λa h=>a h.Ex⟩
theorem at4x0{a b c d:Int}:aB [a,b,c,d] 0=some a:=rfl
theorem at4x1{a b c d:Int}:aB [a,b,c,d] 1=some b:=rfl
theorem at4x2{a b c d:Int}:aB [a,b,c,d] 2=some c:=rfl
theorem at4x3{a b c d:Int}:aB [a,b,c,d] 3=some d:=rfl
theorem lpN(l:List Int)(lo d n:Int)(e:(l.length:Int)=n){E:Option Bool}{Q:Bool->Prop}(g:¬(∀a∈l,lo<=a/\a<=d)->Q false)(j:(∀a∈l,lo<=a/\a<=d)->bY E Q)(k:l.length<5000) :
  bY (bo (λ(f:Int->Option Bool) (x:Int)=>if (decide (x<n))=true then (aB l x).bind λy=>if ((decide (y<lo)) || (decide (y > d)))=true then some false else f (IntKind.i64.wrap (x+1)) else E) 5000 0) Q:=by
 subst e;refine um l (λ_ a=>lo<=a/\a<=d) (λi f h _ m=>?_) (λf h=>?_) k
 ·simp only[cD h,if_true,bN h,Option.bind_some,bJ (show i<1000000 by omega),aZ,aV,dZ,aQ];exact ⟨λq=>g λp=>by have:=p _ (bn h);omega,λh=>m (by omega)⟩
 ·simp only[dX,bA,bT];exact j (BZ h)
theorem xJ{a b c d lo e:Int}:(∀x∈[a,b,c,d],lo<=x/\x<=e)↔(lo<=a/\a<=e)/\(lo<=b/\b<=e)/\(lo<=c/\c<=e)/\(lo<=d/\d<=e):=by simp
theorem DQ{a b c lo d:Int}:(∀x∈[a,b,c],lo<=x/\x<=d)↔(lo<=a/\a<=d)/\(lo<=b/\b<=d)/\(lo<=c/\c<=d):=by simp
theorem Rt(r:aA):fB (Lw 5000 r) (aK r):=by
 simp only[Lw,ft,Option.bind_some];refine lpN [r.br,r.Mem,r.bx,r.bD] 0 1048576 4 rfl (λh=>?_) (λh=>?_) (by simp)
 ·simp only[bA,zj];exact λv=>h (xJ.2 ⟨v.Ex,v.mem,v.Hd,v.IC⟩)
 ·rw[aV];obtain ⟨a,d,e,f⟩:=xJ.1 h;exact ⟨λ_=>⟨a,d,e,f⟩,λ_=>rfl⟩
def bL:aA:={ br:=0,Mem:=0,bx:=0,bD:=0 }
theorem eI{a b:aA}:aA.beq a b=true↔a=b:=by obtain ⟨d,e,f,g⟩:=a;obtain ⟨h,i,j,k⟩:=b;simp[aA.beq]
end Go.Plain
end
section
namespace Go.Plain
open Go.Abs
theorem BG{x:ByteArray}(h:x.toList.isEmpty=false):x.toList≠[]:=by intro e;rw[e] at h;cases h
def Ks(l:List Int):Nat->Int
 |0=>-1
 |i+1=>l[i]?.getD 0
theorem rU{l:List Int}{i:Nat}(h:i<l.length):Ks l (i+1)=l[i]:=by simp[Ks,h]
def mg(l:List Int)(n:Int):Prop:=∀i (h:i<l.length),Ks l i<l[i]/\l[i]<n
theorem mg.nn{l:List Int}{n:Int}(h:∀i (j:i<l.length),Ks l i<l[i]):∀i (j:i<l.length),0<=l[i]:=by
 intro i;induction i with
 |zero=>intro j;have:=h 0 j;simp only[Ks] at this;omega
 |succ i ih=>intro j;have:=h (i+1) j;rw[rU (by omega)] at this;have:=ih (by omega);omega
theorem mg.mem{l:List Int}{n:Int}(h:mg l n):∀x∈l,0<=x/\x<n:=λx s=>by obtain ⟨i,j,rfl⟩:=jj s;exact ⟨mg.nn (n:=n) (λi j=>(h i j).1) i j,(h i j).2⟩
theorem ascending(l:List Int)(n:Int)(r:l.length<99):fB (zem 5000 l n) (mg l n):=by
 simp only[zem];refine jA l.length (λi x=>x=(Ks l i,(i:Int))/\∀j (d:j<l.length),j<i->Ks l j<l[j]/\l[j]<n) (λi x f a e p=>?_) (λx f e=>?_) ⟨rfl,λj d h=>by omega⟩ (by omega)
 ·obtain ⟨rfl,g⟩:=e;simp only[cD a,if_true,bN a,Option.bind_some,bJ (show i<1000000 by omega),aZ,aV,dZ,aQ];refine ⟨λh=>?_,λh=>p _ ⟨by rw[rU a],λj d k=>?_⟩⟩
  ·simp only[bA,zj];intro q;have:=q i a;omega
  ·rcases Dx (Kv.1 k) with m | m
   ·exact g j d m
   ·subst m;omega
 ·obtain ⟨rfl,g⟩:=e;simp only[dX,bA,bT,aV,LI];exact λi a=>g i a a
theorem Bh(l:List Int)(n:Int)(r:l.length<99):fB (zcg 5000 l n) (mg l n):=by
 simp only[zcg,il];refine um l (λi a=>Ks l i<a/\a<n) (λi f h s d=>?_) (λf h=>?_) (by omega)
 ·have hd:decide ((i:Int) > 0)=decide (0<i):=by simp
  simp only[cD h,if_true,bN h,Option.bind_some,bJ (show i<1000000 by omega),aZ,aV,aQ,hd,bA,bT];have bad:¬(Ks l i<l[i]/\l[i]<n)->(False↔mg l n):=λg=>by simp only[zj];exact λe=>g (e i h)
  refine ⟨λj=>?_,λj=>⟨λk=>bad (by omega),λk=>⟨λp=>?_,λp=>?_⟩⟩⟩
  ·simp only[zj];intro e;have:=(e.mem _ (bn h)).1;omega
  ·obtain ⟨m,rfl⟩:∃m,i=m+1:=⟨i-1,by omega⟩;rw[wp1 (show m+1<1000000 by omega),bN (show m<l.length by omega)];rw[rU (by omega)] at bad d;simp only[Option.bind_some,aZ,aQ,aV,bA];exact ⟨λq=>bad (by omega),λq=>d ⟨by omega,by omega⟩⟩
  ·have:i=0:=by omega
   subst this;exact d ⟨by simp only[Ks];omega,by omega⟩
 ·simp only[dX,bA,bT,aV,LI];exact h
structure Ab (s:bq):Prop where
 lo:1<=s.aq.length
 hi:s.aq.length<=16
 ok:∀r∈s.aq,aK r
theorem MN(s:bq):fB (eK 5000 s) (Ab s):=by
 simp only[eK,aZ,aV];refine ⟨λh=>?_,λh=>?_⟩
 ·simp only[dZ,aQ] at h;simp only[bA,zj];intro k;have:=k.lo;have:=k.hi;omega
 ·simp only[dZ,aQ,not_or] at h;refine Oz s.aq aK _ (λk=>k.ok) (λi f a Q g j=>?_) (λf l=>?_) (by omega)
  ·simp only[cD a,if_true,bN a,Option.bind_some,bJ (show i<1000000 by omega)];refine (Rt _).bind λr d=>?_;simp only[aZ,aV,eS,lN];exact ⟨λe=>j (by rw[<-d,e];simp),λe=>g (d.1 e)⟩
  ·simp only[dX,bA,bT,aV,LI];exact ⟨by omega,by omega,l⟩
theorem Qa(s:bq)(hs:oV s):fB (zcC 5000 s) (Ab s):=by
 have:=hs.nodes;simp only[zcC];refine Oz s.aq aK _ (λk=>k.ok) (λi f a Q g j=>?_) (λf l=>?_) (by omega)
 ·simp only[cD a,if_true,bN a,Option.bind_some,bJ (show i<1000000 by omega)];refine (wN _).bind λr d=>?_;simp only[aZ,aV,eS,lN];exact ⟨λe=>j (by rw[<-d,e];simp),λe=>g (d.1 e)⟩
 ·simp only[dX,bA,bT,xP,Option.bind_some,aV,bp,aQ];exact ⟨λh=>⟨by omega,by omega,l⟩,λh=>by have:=h.lo;have:=h.hi;omega⟩
structure zT (s:bq):Prop where
 lo:1<=s.aF.length
 hi:s.aF.length<=8
 ok:∀p∈s.aF,1<=p.length/\mg p s.aq.length
theorem KG(s:bq)(hs:oV s):fB (eJ 5000 s) (zT s):=by
 simp only[eJ,il,aZ,aV];refine ⟨λh=>?_,λh=>?_⟩
 ·simp only[dZ,aQ] at h;simp only[bA,zj];intro k;have:=k.lo;have:=k.hi;omega
 ·simp only[dZ,aQ,not_or] at h;refine Oz s.aF (λp=>1<=p.length/\mg p s.aq.length) _ (λk=>k.ok) (λi f a Q l g=>?_) (λf m=>?_) (by omega)
  ·have:=hs.part _ (bn a);simp only[cD a,if_true,bN a,Option.bind_some,bJ (show i<1000000 by omega),aZ,aV,aQ];refine ⟨λe=>g (by omega),λe=>?_⟩;refine (ascending _ _ (by omega)).bind λr j=>?_;simp only[aZ,aV,eS,lN];exact ⟨λd=>g (by rw[<-j,d];simp),λd=>l ⟨by omega,j.1 d⟩⟩
  ·simp only[dX,bA,bT,aV,LI];exact ⟨by omega,by omega,m⟩
theorem Qt(s:bq)(hs:oV s):fB (zcw 5000 s) (zT s):=by
 have:=hs.parts;simp only[zcw,il];refine Oz s.aF (λp=>1<=p.length/\mg p s.aq.length) _ (λk=>k.ok) (λi f a Q l g=>?_) (λf m=>?_) (by omega)
 ·have:=hs.part _ (bn a);simp only[cD a,if_true,bN a,Option.bind_some,bJ (show i<1000000 by omega),aZ,aV,aQ];refine ⟨λe=>g (by omega),λe=>?_⟩;refine (Bh _ _ (by omega)).bind λr j=>?_;simp only[aZ,aV,eS,lN];exact ⟨λd=>g (by rw[<-j,d];simp),λd=>l ⟨by omega,j.1 d⟩⟩
 ·simp only[dX,bA,bT,xP,Option.bind_some,aV,bp,aQ];exact ⟨λh=>⟨by omega,by omega,m⟩,λh=>by have:=h.lo;have:=h.hi;omega⟩
structure EX (s:bq) (q:CX):Prop where
 part:0<=q.Part/\q.Part<s.aF.length
 yO:mg q.aU s.aU
 cC:1<=q.iA/\q.iA<=256
 run:1<=q.kG/\q.kG<=256
 user:1<=q.fJ/\q.fJ<=256
 qos:0<=q.lS/\q.lS<=100
structure xI (s:bq):Prop where
 lo:1<=s.am.length
 hi:s.am.length<=8
 ok:∀q∈s.am,EX s q
theorem HT(s:bq)(hs:oV s):fB (zeu 5000 s) (xI s):=by
 simp only[zeu,il,aZ,aV];refine ⟨λh=>?_,λh=>?_⟩
 ·simp only[dZ,aQ] at h;simp only[bA,zj];intro k;have:=k.lo;have:=k.hi;omega
 ·simp only[dZ,aQ,not_or] at h;refine Oz s.am (EX s) _ (λk=>k.ok) (λi f g Q m d=>?_) (λf n=>?_) (by omega)
  ·have:=hs.queue _ (bn g);simp only[cD g,if_true,bN g,Option.bind_some,bJ (show i<1000000 by omega),bA,bT];rw[aZ];refine ⟨λe=>?_,λe=>?_⟩
   ·simp only[dZ,aQ] at e;rw[aV];exact d λk=>by have:=k.part;omega
   ·simp only[dZ,aQ,not_or] at e;refine (ascending _ _ (by omega)).bind λr l=>?_;rw[aZ];refine ⟨λa=>?_,λa=>?_⟩
    ·rw[aV];simp only[eS] at a;exact d λk=>by have:=l.2 k.yO;rw[a] at this;simp at this
    ·simp only[eS,lN] at a;refine lpN [_,_,_] 1 256 3 rfl (λp=>d λk=>p (DQ.2 ⟨k.cC,k.run,k.user⟩)) (λq=>?_) (by simp);obtain ⟨t,u,v⟩:=DQ.1 q;rw[aZ];refine ⟨λj=>?_,λj=>?_⟩
     ·simp only[dZ,aQ] at j;rw[aV];exact d λk=>by have:=k.qos;omega
     ·simp only[dZ,aQ,not_or] at j;exact m ⟨by omega,l.1 a,t,u,v,by omega⟩
  ·simp only[dX,bA,bT,aV,LI];exact ⟨by omega,by omega,n⟩
theorem Ld(s:bq)(hs:oV s):fB (zch 5000 s) (xI s):=by
 have:=hs.fQ;simp only[zch,il];refine Oz s.am (EX s) _ (λk=>k.ok) (λi f d Q l a=>?_) (λf m=>?_) (by omega)
 ·have:=hs.queue _ (bn d);simp only[cD d,if_true,bN d,Option.bind_some,bJ (show i<1000000 by omega),bA,bT];rw[aZ];refine ⟨λe=>?_,λe=>?_⟩
  ·simp only[dZ,aQ] at e;rw[aV];exact a λk=>by have:=k.part;omega
  ·simp only[dZ,aQ,not_or] at e;refine (Bh _ _ (by omega)).bind λr j=>?_;simp only[xP,Option.bind_some,aZ,aV,eS,lN,bp,aQ,yBv,Vd];refine ⟨λg=>a λk=>by have:=j.2 k.yO;rw[g] at this;simp at this,λg=>⟨λn=>a λk=>by have:=k.cC;omega,λn=>⟨λp=>a λk=>by have:=k.run;omega,λp=>⟨λq=>a λk=>by have:=k.user;omega,λq=>⟨λt=>a λk=>by have:=k.qos;omega,λt=>?_⟩⟩⟩⟩⟩;exact l ⟨by omega,j.1 g,by omega,by omega,by omega,by omega⟩
 ·simp only[dX,bA,bT,xP,Option.bind_some,aV,bp,aQ];exact ⟨λh=>⟨by omega,by omega,m⟩,λh=>by have:=h.lo;have:=h.hi;omega⟩
structure xX (w:Lj):Prop where
 age:0<=w.uD/\w.uD<=1000
 size:0<=w.ee/\w.ee<=1000
 qos:0<=w.lS/\w.lS<=1000
 share:0<=w.cB/\w.cB<=1000
theorem FL(w:Lj):fB (zdX 5000 w) (xX w):=by
 simp only[zdX];refine lpN [w.uD,w.ee,w.lS,w.cB] 0 1000 4 rfl (λh=>?_) (λh=>?_) (by simp)
 ·simp only[bA,zj];exact λv=>h (xJ.2 ⟨v.age,v.size,v.qos,v.share⟩)
 ·rw[aV];obtain ⟨a,d,e,f⟩:=xJ.1 h;exact ⟨λ_=>⟨a,d,e,f⟩,λ_=>rfl⟩
structure bS (s:bq):Prop where
 nodes:Ab s
 parts:zT s
 yO:1<=s.aU/\s.aU<=8
 fQ:xI s
 weights:xX s.av
 decay:1<=s.cE/\s.cE<=16
 mode:s.Mode=1∨s.Mode=2
 cC:1<=s.aw/\s.aw<=256
 ids:1<=s.qy/\s.qy<=1048576
 xG:1<=s.aL/\s.aL<=65536
 Vt:0<=s.bR/\s.bR<=65536
 keep:1<=s.fh/\s.fh<=16
 Nd:1<=s.In/\s.In<=8
 out:1<=s.Out/\s.Out<=16
 cache:0<=s.cG/\s.cG<=16
theorem vT(s:bq)(hs:oV s):fB (Nv 5000 s) (bS s):=by
 simp only[Nv,yf];obtain ⟨S,A,m⟩:=MN s;obtain ⟨U,E,n⟩:=KG s hs;obtain ⟨W,F,r⟩:=HT s hs;obtain ⟨Y,G,t⟩:=FL s.av;simp only[A,E,F,G,Option.bind_some];have T:∀(x:ByteArray),x.toList≠[]->(¬bS s)->bY ((some x).bind λa=>some (a.toList == (⟨#[]⟩:ByteArray).toList)) λb=>b=true↔bS s:=λx q K=>by
  rw[aE,aV];have:(⟨#[]⟩:ByteArray).toList=[]:=by kernel_rfl
  rw[this];simp only[lO];exact ⟨λh=>absurd h q,λh=>absurd h K⟩
 have step:∀(c:Bool)(x:ByteArray)(o:Option ByteArray),x.toList.isEmpty=false->(c=false->¬bS s)->(c=true->bY (o.bind λa=>some (a.toList == (⟨#[]⟩:ByteArray).toList)) λb=>b=true↔bS s) ->
   bY ((if (!c)=true then some x else o).bind λa=>some (a.toList == (⟨#[]⟩:ByteArray).toList)) λb=>b=true↔bS s:=λc x o q m n=>by
  cases c with
  |false=>exact T x (by intro h;rw[h] at q;cases q) (m rfl)
  |true=>exact n rfl
 have nb:∀{b:Bool}{p:Prop},(b=true↔p)->b=false->¬p:=λh e L=>by rw[h.2 L] at e;cases e
 refine step _ _ _ (by kernel_rfl) (λe k=>nb m e k.nodes) λc1=>?_;refine step _ _ _ (by kernel_rfl) (λe k=>nb n e k.parts) λM=>?_;refine step _ _ _ (by kernel_rfl) (λe k=>by have:=k.yO;simp at e;omega) λu=>?_;refine step _ _ _ (by kernel_rfl) (λe k=>nb r e k.fQ) λN=>?_;refine step _ _ _ (by kernel_rfl) (λe k=>nb t e k.weights) λO=>?_;refine step _ _ _ (by kernel_rfl) (λe k=>by have:=k.decay;simp at e;omega) λv=>?_;refine step _ _ _ (by kernel_rfl) (λe k=>by have:=k.mode;simp at e;omega) λw=>?_;refine step _ _ _ (by kernel_rfl) (λe k=>by have:=k.cC;simp at e;omega) λy=>?_;refine step _ _ _ (by kernel_rfl) (λe k=>by have:=k.ids;simp at e;omega) λz=>?_;refine step _ _ _ (by kernel_rfl) (λe k=>by have:=k.xG;simp at e;omega) λd=>?_;refine step _ _ _ (by kernel_rfl) (λe k=>by have:=k.Vt;simp at e;omega) λf=>?_;refine step _ _ _ (by kernel_rfl) (λe k=>by have:=k.keep;simp at e;omega) λg=>?_;refine step _ _ _ (by kernel_rfl) (λe k=>by have:=k.Nd;simp at e;omega) λi=>?_;refine step _ _ _ (by kernel_rfl) (λe k=>by have:=k.out;simp at e;omega) λj=>?_;refine step _ _ _ (by kernel_rfl) (λe k=>by have:=k.cache;simp at e;omega) λl=>?_;rw[aE,aV];simp only[yCa,LI];simp only[bp,dZ,aQ,lO] at u v w y z d f g i j l;exact ⟨m.1 c1,n.1 M,u,r.1 N,t.1 O,v,w,y,z,d,f,g,i,j,l⟩
theorem IT{n:Nat}(hN:15<n){s:bq}{m p q:Bool}(Z:zcC n s=some m)(K:m=true↔Ab s)(e2:zcw n s=some p)(N:p=true↔zT s)(e4:zch n s=some q)(O:q=true↔xI s):fB (zct n s) (bS s):=by
 simp only[zct,fZ,Z,e2,e4,Option.bind_some,xP,il];have d:∀w:Bool,(w=true↔xX s.av)->∀(L:List Bool)(M:List ByteArray),L=[m,p,decide (1<=s.aU)&&decide (s.aU<=8),q,w,decide (1<=s.cE)&&decide (s.cE<=16),decide (1<=s.Mode)&&decide (s.Mode<=2),decide (1<=s.aw)&&decide (s.aw<=256),decide (1<=s.qy)&&decide (s.qy<=1048576),decide (1<=s.aL)&&decide (s.aL<=65536),decide (0<=s.bR)&&decide (s.bR<=65536),decide (1<=s.fh)&&decide (s.fh<=16),decide (1<=s.In)&&decide (s.In<=8),decide (1<=s.Out)&&decide (s.Out<=16),decide (0<=s.cG)&&decide (s.cG<=16)] ->
   (∀x∈M,x.toList≠[])->M.length=15 ->
   bY ((bo (λ(r:Int->Option ByteArray) (g:Int)=>if (decide (g<15))=true then (aB L g).bind λt=>if (!t)=true then (aB M g).bind λu=>some u else r (IntKind.i64.wrap (g+1)) else some (⟨#[]⟩:ByteArray)) n 0).bind λr1=>some (r1.toList == (⟨#[]⟩:ByteArray).toList)) λb=>b=true↔bS s:=by
  intro w S L M T hM U;have j:L.length=15:=by rw[T];rfl
  have v:(15:Int)=(L.length:Int):=by rw[j];rfl
  have all:(∀x∈L,x=true)↔bS s:=by
   rw[T];simp only[eU,Hj,Hg,forall_eq_or_imp,forall_eq,bp,aQ];constructor
   ·rintro ⟨c1,c2,c3,c4,c5,c6,c7,c8,c9,y,z,A,E,F,G⟩;exact ⟨K.1 c1,N.1 c2,c3,O.1 c4,S.1 c5,c6,by omega,c8,c9,y,z,A,E,F,G⟩
   ·intro k;have:=k.mode;exact ⟨K.2 k.nodes,N.2 k.parts,k.yO,O.2 k.fQ,S.2 k.weights,k.decay,by omega,k.cC,k.ids,k.xG,k.Vt,k.keep,k.Nd,k.out,k.cache⟩
  rw[nJ,v];have nil:(⟨#[]⟩:ByteArray).toList=[]:=by kernel_rfl
  refine um L (λ_ x=>x=true) (λi f h _ W=>?_) (λf hA=>?_) (by omega)
  ·simp only[cD h,if_true,bN h,bN (l:=M) (show i<M.length by omega),Option.bind_some,bJ (show i<1000000 by omega),aZ,aV,eS,lN,nil,lO] at W ⊢;exact ⟨λe=>⟨λh'=>absurd h' (hM _ (bn _)),λk=>by have:=all.2 k _ (bn h);rw[e] at this;cases this⟩,λe=>W e⟩
  ·simp only[dX,bA,bT,aV,yCa,LI];exact all.1 (BZ hA)
 have a:∀x∈([(⟨#[78,111,100,101,115]⟩:ByteArray),(⟨#[80,97,114,116,115]⟩:ByteArray),(⟨#[85,115,101,114,115]⟩:ByteArray),(⟨#[81,117,101,117,101,115]⟩:ByteArray),(⟨#[87,101,105,103,104,116,115]⟩:ByteArray),(⟨#[68,101,99,97,121]⟩:ByteArray),(⟨#[77,111,100,101]⟩:ByteArray),(⟨#[74,111,98,115]⟩:ByteArray),(⟨#[73,100,115]⟩:ByteArray),(⟨#[86,101,114,115,105,111,110,115]⟩:ByteArray),(⟨#[76,105,110,103,101,114]⟩:ByteArray),(⟨#[75,101,101,112]⟩:ByteArray),(⟨#[73,110]⟩:ByteArray),(⟨#[79,117,116]⟩:ByteArray),(⟨#[67,97,99,104,101]⟩:ByteArray)]:List ByteArray),x.toList≠[]:=by intro x Y;simp only[eU,Hj,Hg] at Y;rcases Y with rfl | rfl | rfl | rfl | rfl | rfl | rfl | rfl | rfl | rfl | rfl | rfl | rfl | rfl | rfl <;> exact BG (by kernel_rfl)
 split
 ·rename_i w1;split
  ·rename_i w2;split
   ·rename_i w3;refine d _ ?_ _ _ rfl a rfl;simp only[bp,aQ] at w1 w2 w3 ⊢;exact ⟨λw4=>⟨w1,w2,w3,w4⟩,λk=>k.share⟩
   ·rename_i w3;refine d _ ?_ _ _ rfl a rfl;simp only[bp,aQ] at w3;simp only[bA,zj];exact λk=>w3 k.qos
  ·rename_i w2;refine d _ ?_ _ _ rfl a rfl;simp only[bp,aQ] at w2;simp only[bA,zj];exact λk=>w2 k.size
 ·rename_i w1;refine d _ ?_ _ _ rfl a rfl;simp only[bp,aQ] at w1;simp only[bA,zj];exact λk=>w1 k.age
theorem Qo(s:bq)(hs:oV s):fB (zct 5000 s) (bS s):=by obtain ⟨i,a,d⟩:=Qa s hs;obtain ⟨j,e,f⟩:=Qt s hs;obtain ⟨k,g,h⟩:=Ld s hs;exact IT (by decide) a d e f g h
end Go.Plain
end
section
namespace Go.Plain
open Go.Abs
structure yz (L:List (Int×Int)) (k:Int):Prop where
 lo:0<=k
 hi:k<=64
 fit:∀p∈L,k * p.2<=p.1
 max:k<64->∃p∈L,p.1<(k+1) * p.2
theorem yz.t_{L:List (Int×Int)}{k j:Int}(z:∀p∈L,0<=p.2)(h:yz L k)(s:yz L j):k=j:=by
 have i:∀{a b:Int},yz L a->yz L b->¬a<b:=λ{a b} A u E=>by obtain ⟨p,x,F⟩:=A.max (by have:=u.hi;omega);have G:=u.fit p x;have K:(a+1) * p.2<=b * p.2:=yBa (by omega) (z p x);omega
 have:=i h s;have:=i s h;omega
theorem yz.nil:yz [] 64:=⟨by omega,by omega,by simp,by simp⟩
def qm(n a b:Int):Int:=if b > 0 then (if a.tdiv b<n then a.tdiv b else n) else n
theorem yz.step{L:List (Int×Int)}{k a b:Int}(h:yz L k)(z:∀p∈L,0<=p.2)(s:0<=a)(M:0<=b):yz (L++[(a,b)]) (qm k a b):=by
 unfold qm;have u:=h.lo;have x:=h.hi;split
 ·rename_i j;rw[xAp s];have A:a / b * b<=a:=Int.ediv_mul_le a (by omega);have E:a<(a / b+1) * b:=Int.lt_ediv_add_one_mul_self a j;have F:0<=a / b:=Int.ediv_nonneg s (by omega);split
  ·rename_i G;refine ⟨F,by omega,λp i=>?_,λ_=>⟨(a,b),by simp,E⟩⟩;rcases mw.1 i with i | i
   ·have:=h.fit p i;have:a / b * p.2<=k * p.2:=yBa (by omega) (z p i);omega
   ·simp only[nL] at i;subst i;exact A
  ·rename_i K;refine ⟨u,x,λp i=>?_,λhk=>?_⟩
   ·rcases mw.1 i with i | i
    ·exact h.fit p i
    ·simp only[nL] at i;subst i;have:k * b<=a / b * b:=yBa (by omega) (by omega);dsimp only;omega
   ·obtain ⟨p,i,q⟩:=h.max hk;exact ⟨p,Ri _ i,q⟩
 ·rename_i j;have:b=0:=by omega
  subst this;refine ⟨u,x,λp i=>?_,λhk=>?_⟩
  ·rcases mw.1 i with i | i
   ·exact h.fit p i
   ·simp only[nL] at i;subst i;simp;exact s
  ·obtain ⟨p,i,q⟩:=h.max hk;exact ⟨p,Ri _ i,q⟩
theorem Ln{n a b:Int}(h:b > 0):qm n a b=if a.tdiv b<n then a.tdiv b else n:=by unfold qm;rw[if_pos h]
theorem MV{n a b:Int}(h:¬b > 0):qm n a b=n:=by unfold qm;rw[if_neg h]
def Ji(a b:aA):List (Int×Int):=[(a.br,b.br),(a.Mem,b.Mem),(a.bx,b.bx),(a.bD,b.bD)]
def dr(a b:aA):Int:=qm (qm (qm (qm 64 a.br b.br) a.Mem b.Mem) a.bx b.bx) a.bD b.bD
theorem vW{a b:aA}(e:aK a)(d:aK b):yz (Ji a b) (dr a b):=by have f:=yz.nil;have g:=f.step (by simp) e.Ex.1 d.Ex.1;have h:=g.step (by simp;exact d.Ex.1) e.mem.1 d.mem.1;have i:=h.step (by simp;exact ⟨d.Ex.1,d.mem.1⟩) e.Hd.1 d.Hd.1;have j:=i.step (by simp;exact ⟨d.Ex.1,d.mem.1,d.Hd.1⟩) e.IC.1 d.IC.1;exact j
theorem w1:IntKind.i64.wrap (0+1)=1:=rfl
theorem w2:IntKind.i64.wrap (1+1)=2:=rfl
theorem w3:IntKind.i64.wrap (2+1)=3:=rfl
theorem w4:IntKind.i64.wrap (3+1)=4:=rfl
theorem wq{a b:Int}(d:0<=a/\a<=1048576)(e:0<b):Mn .i64 a b=some (a.tdiv b):=by unfold Mn;rw[if_neg (by omega)];have f:0<=a / b:=Int.ediv_nonneg d.1 (by omega);have g:a / b<=a:=Int.ediv_le_self b d.1;rw[xAp d.1,wr (by omega) (by omega)]
def Xr(a b:aA):Nat->Int
 |0=>64
 |1=>qm 64 a.br b.br
 |2=>qm (qm 64 a.br b.br) a.Mem b.Mem
 |3=>qm (qm (qm 64 a.br b.br) a.Mem b.Mem) a.bx b.bx
 |_=>dr a b
theorem count{a b:aA}(g:aK a)(l:aK b)(m:b≠bL):im 5000 a b=some (dr a b):=by
 obtain ⟨u,n,p⟩:=Rt a;obtain ⟨v,q,r⟩:=Rt b;have s:=p.2 g;have t:=r.2 l;subst s t;have j:aA.beq b bL=false:=by
  cases h:aA.beq b bL with
  |false=>rfl
  |true=>exact absurd (eI.1 h) m
 simp only[im,il,n,q,Option.bind_some,Fj,bA,bT,Bool.false_or,ft];change (if aA.beq b bL=true then some 0 else _)=_;rw[j];simp only[bA,bT];refine bY.eq (jA 4 (λi x=>x=(Xr a b i,(i:Int))) (λi x f w k e=>?_) (λx f k=>?_) rfl (by omega))
 ·subst k;rcases (show i=0∨i=1∨i=2∨i=3 by omega) with rfl | rfl | rfl | rfl
  ·rw[show ((0:Nat):Int)=0 from rfl];simp only[show decide ((0:Int)<4)=true from rfl,if_true,at4x0,Option.bind_some,w1,aZ,aQ];refine ⟨λd=>?_,λd=>e _ (by simp[Xr,qm,d])⟩;rw[wq g.Ex d,aE];exact e _ (by simp[Xr,qm,d])
  ·rw[show ((1:Nat):Int)=1 from rfl];simp only[show decide ((1:Int)<4)=true from rfl,if_true,at4x1,Option.bind_some,w2,aZ,aQ];refine ⟨λd=>?_,λd=>e _ (by simp only[Xr,dr,MV d];rfl)⟩;rw[wq g.mem d,aE];exact e _ (by simp only[Xr,dr,Ln d];rfl)
  ·rw[show ((2:Nat):Int)=2 from rfl];simp only[show decide ((2:Int)<4)=true from rfl,if_true,at4x2,Option.bind_some,w3,aZ,aQ];refine ⟨λd=>?_,λd=>e _ (by simp only[Xr,dr,MV d];rfl)⟩;rw[wq g.Hd d,aE];exact e _ (by simp only[Xr,dr,Ln d];rfl)
  ·rw[show ((3:Nat):Int)=3 from rfl];simp only[show decide ((3:Int)<4)=true from rfl,if_true,at4x3,Option.bind_some,w4,aZ,aQ];refine ⟨λd=>?_,λd=>e _ (by simp only[Xr,dr,MV d];rfl)⟩;rw[wq g.IC d,aE];exact e _ (by simp only[Xr,dr,Ln d];rfl)
 ·subst k;simp only[show decide (((4:Nat):Int)<4)=false from rfl,bA,bT,aV];rfl
theorem En{b:aA}(a:aK b):Mt 5000 b bL=some (decide (b=bL)):=by simp only[Mt,aj];have:=a.Ex;have:=a.mem;have:=a.Hd;have:=a.IC;rw[Bool.eq_iff_iff];simp only[bp,aQ];obtain ⟨d,e,f,g⟩:=b;simp only[bL,aA.mk.injEq];simp only at *;omega
theorem xS{a b:aA}(j:aK a)(g:aK b)(z:b≠bL):zbo 5000 a b=some (dr a b):=by
 obtain ⟨W,A,u⟩:=wN a;obtain ⟨Y,E,v⟩:=wN b;have F:=u.2 j;have G:=v.2 g;subst F G;simp only[zbo,il,A,E,Option.bind_some,Fj,bA,bT];have K:Mt 5000 b ({ br:=0,Mem:=0,bx:=0,bD:=0 }:aA)=some (decide (b=bL)):=En g;rw[K];simp only[Option.bind_some,z,decide_false,bA,bT];have Z:=j.Ex;have hm:=j.mem;have hg:=j.Hd;have hl:=j.IC;have l:=g.Ex;have m:=g.mem;have n:=g.Hd;have q:=g.IC;have L:∀p∈Ji a b,0<=p.2:=by
  intro p e;simp only[Ji,eU,Hj,Hg] at e;rcases e with rfl | rfl | rfl | rfl
  ·exact l.1
  ·exact m.1
  ·exact n.1
  ·exact q.1
 have done:∀k:Int,yz (Ji a b) k->k=dr a b:=λk hk=>hk.t_ L (vW j g);have d:∀{i:Nat}{y:Int},i<=65->0<=y/\y<=1048576->0<=(i:Int) * y/\(i:Int) * y<=68157440:=λ{i y} M w=>by have u:0<=(i:Int) * y:=yBL (by omega) w.1;have v:(i:Int) * y<=65 * y:=yBa (by omega) w.1;omega
 refine bY.eq (jA 64 (λi x=>x=((i:Int),((i+1:Nat):Int) * b.br,((i+1:Nat):Int) * b.Mem,((i+1:Nat):Int) * b.bx,((i+1:Nat):Int) * b.bD)/\∀p∈Ji a b,(i:Int) * p.2<=p.1) (λi x f M s N=>?_) (λx f s=>?_) ⟨by simp,λp e=>?_⟩ (by omega))
 ·obtain ⟨rfl,t⟩:=s;have m1:=d (i:=i+1) (by omega) l;have m2:=d (i:=i+1) (by omega) m;have m3:=d (i:=i+1) (by omega) n;have m4:=d (i:=i+1) (by omega) q;have r:∀y:Int,((i+1:Nat):Int) * y+y=((i+1+1:Nat):Int) * y:=λy=>by
   rw[show ((i+1+1:Nat):Int)=((i+1:Nat):Int)+1 by omega,Int.add_mul,Int.one_mul]
  simp only[show decide ((i:Int)<64)=true by simp;omega,if_true,Mt,Option.bind_some,Uo,aZ,aV,bp,aQ,bJ (show i<1000000 by omega)];rw[wr (by omega) (by omega),wr (by omega) (by omega),wr (by omega) (by omega),wr (by omega) (by omega),r,r,r,r];refine ⟨λh=>N _ ⟨rfl,λp e=>?_⟩,λh=>done _ ⟨by omega,by omega,t,λ_=>?_⟩⟩
  ·simp only[Ji,eU,Hj,Hg] at e;rcases e with rfl | rfl | rfl | rfl
   ·exact h.1.1.1
   ·exact h.1.1.2
   ·exact h.1.2
   ·exact h.2
  ·rw[show ((i:Int)+1)=((i+1:Nat):Int) by omega];by_cases O:a.br<((i+1:Nat):Int) * b.br
   ·exact ⟨(a.br,b.br),by simp[Ji],O⟩
   by_cases S:a.Mem<((i+1:Nat):Int) * b.Mem
   ·exact ⟨(a.Mem,b.Mem),by simp[Ji],S⟩
   by_cases T:a.bx<((i+1:Nat):Int) * b.bx
   ·exact ⟨(a.bx,b.bx),by simp[Ji],T⟩
   by_cases U:a.bD<((i+1:Nat):Int) * b.bD
   ·exact ⟨(a.bD,b.bD),by simp[Ji],U⟩
   exact absurd ⟨⟨⟨by omega,by omega⟩,by omega⟩,by omega⟩ h
 ·obtain ⟨rfl,t⟩:=s;simp only[show decide (((64:Nat):Int)<64)=false from rfl,bA,bT,aV];exact done _ ⟨by omega,by omega,t,λh=>by omega⟩
 ·simp only[Ji,eU,Hj,Hg] at e;rcases e with rfl | rfl | rfl | rfl <;> simp <;> omega
def wR(s:bq)(l:List Int)(need:aA):Int:=(l.map λn=>dr ((s.aq[n.toNat]?).getD bL) need).sum
theorem LS{a b:aA}(d:aK a)(e:aK b):0<=dr a b/\dr a b<=64:=⟨(vW d e).lo,(vW d e).hi⟩
theorem yg{s:bq}{need:aA}(k:bS s)(p:aK need)(G:need≠bL){l:List Int}(K:l.length<=300)(r:mg l s.aq.length)(C:aA->Option Int)(t:∀a,aK a->C a=some (dr a need)) :
  bo (λ(u:Int×Int->Option Int) (g:Int×Int)=>if (decide (g.2<(l.length:Int)))=true then (aB l g.2).bind λv=>(aB s.aq v).bind λw=>(C w).bind λz=>u ((IntKind.i64.wrap (g.1+z)),(IntKind.i64.wrap (g.2+1))) else some g.1) 5000 (0,0)=some (wR s l need):=by
 have A:∀(m:List Int),(∀x∈m,x∈l)->0<=wR s m need/\wR s m need<=64 * m.length:=by
  intro m;induction m with
  |nil=>intro _;simp[wR]
  |cons x m ih=>
   intro h;have E:=ih λy F=>h y (h_ _ F);have q:=r.mem x (h x (iz ..));have d:x.toNat<s.aq.length:=by omega
   have:=LS (k.nodes.ok (s.aq[x.toNat]) (bn d)) p;simp only[wR,iH,List.sum_cons,cT d,Option.getD_some,List.length_cons] at E ⊢;omega
 refine bY.eq (jA l.length (λi x=>x=(wR s (l.take i) need,(i:Int))) (λi x f j d n=>?_) (λx f d=>?_) (by simp[wR]) (by omega))
 ·subst d;have q:=r.mem l[i] (bn j);obtain ⟨d,e⟩:=ff q.1 q.2;have c:=LS (k.nodes.ok (s.aq[l[i].toNat]) (bn d)) p;have b:=A (l.take i) λx d=>Kw d;have L:((l.take i).length:Int)<=300:=by rw[km];omega
  simp only[cD j,if_true,bN j,Option.bind_some,e,t _ (k.nodes.ok _ (bn d)),bJ (show i<1000000 by omega)];rw[wr (by omega) (by omega)];refine n _ ?_;congr 1;rw[vU j];simp only[wR,Ic,iH,TI,yBS,List.sum_cons,List.sum_nil,cT d,Option.getD_some];omega
 ·subst d;simp only[dX,bA,bT,aV,uo]
theorem Nk{s:bq}(hs:oV s)(k:bS s){q m:Int}{need:aA}(d:aK need)(f:need≠bL):∃b,fj 5000 s q m need=some b/\zcT 5000 s q m need=some b:=by
 obtain ⟨v,h,r⟩:=vT s hs;have t:=r.2 k;subst t;by_cases j:0<=q/\q<s.am.length/\1<=m
 ·obtain ⟨u,e⟩:=ff j.1 j.2.1;have g:=k.fQ.ok _ (bn u);obtain ⟨l,n⟩:=ff g.part.1 g.part.2;have p:=k.parts.ok _ (bn l);have lp:=hs.part _ (bn l);refine ⟨decide (wR s (s.aF[s.am[q.toNat].Part.toNat]) need≥m),?_,?_⟩
  ·simp only[fj,h,Option.bind_some];rw[if_neg (by simp;omega),e,aE];simp only[tt,h,Option.bind_some];rw[if_neg (by have:=g.part;simp;omega),n,aE];have:=yg k d f (jz lp (by decide)) p.2 (λa=>im 5000 a need) (λa i=>count i d f);rw[this,aE]
  ·simp only[zcT];rw[if_pos (by simp;omega),e,aE];simp only[gz];rw[if_neg (by have:=g.part;simp;omega)];simp only[n,Option.bind_some];have:=yg k d f (jz lp (by decide)) p.2 (λa=>zbo 5000 a need) (λa i=>xS i d f);rw[this,aE]
 ·refine ⟨false,?_,?_⟩
  ·simp only[fj,h,Option.bind_some];rw[if_pos (by simp;omega)]
  ·simp only[zcT];rw[if_neg (by simp;omega)]
end Go.Plain
end
section
namespace Go.Plain
open Go.Abs
structure wI (j:a_):Prop where
 st:1<=j.State/\j.State<=6
 start:j.Start≠0->3<=j.State
 fin:j.End≠0->5<=j.State
 ok:j.Ok=true->j.State=4∨j.State=5
 kill:j.jg=true->j.State=4∨j.State=6
structure JM (j:a_):Prop where
 id:1<=j.Id/\j.Id<=1048576
 user:0<=j.gI/\j.gI<=7
 queue:0<=j.Queue/\j.Queue<=7
 many:1<=j.aJ/\j.aJ<=64
 need:aK j.az
 wu:j.az≠bL
 wall:1<=j.bm/\j.bm<=65536
 Bk:j.aP.length<=4
 after:∀d∈j.aP,1<=d.bC/\d.bC<=j.Id-1
 version:1<=j.bO/\j.bO<=281474976710656
 born:0<=j.fT/\j.fT<=1099511627776
 start:0<=j.Start/\j.Start<=1099511627776
 fin:0<=j.End/\j.End<=1099511627776
 arr:0<=j.Array/\j.Array<=j.Id
 state:wI j
theorem WO(x:Int):bY (tw 5000 x) λr=>r.toList=[]↔¬(1<=x/\x<=6):=by
 simp only[tw,aZ,aV,lO];have e:(⟨#[]⟩:ByteArray).toList=[]:=by kernel_rfl
 refine ⟨λh=>?_,λa=>⟨λh=>?_,λd=>⟨λh=>?_,λf=>⟨λh=>?_,λg=>⟨λh=>?_,λi=>⟨λh=>?_,λj=>?_⟩⟩⟩⟩⟩⟩
 ·exact ⟨λq=>absurd q (BG (by kernel_rfl)),λq=>by omega⟩
 ·exact ⟨λq=>absurd q (BG (by kernel_rfl)),λq=>by omega⟩
 ·exact ⟨λq=>absurd q (BG (by kernel_rfl)),λq=>by omega⟩
 ·exact ⟨λq=>absurd q (BG (by kernel_rfl)),λq=>by omega⟩
 ·exact ⟨λq=>absurd q (BG (by kernel_rfl)),λq=>by omega⟩
 ·exact ⟨λq=>absurd q (BG (by kernel_rfl)),λq=>by omega⟩
 ·exact ⟨λ_=>by omega,λ_=>e⟩
theorem JJ(j:a_):fB (fY 5000 j) (wI j):=by
 have e:(⟨#[]⟩:ByteArray).toList=[]:=by kernel_rfl
 simp only[fY,il];refine (WO j.State).bind λr l=>?_;have no:∀{p:Prop},¬p->(false=true↔p):=λh=>by simp[h]
 rw[aZ];refine ⟨λh=>?_,λh=>?_⟩
 ·rw[aV];simp only[e,lO] at h;exact no λk=>l.1 h k.st
 ·simp only[e,lO] at h;have hs:1<=j.State/\j.State<=6:=yBZ λg=>h (l.2 g);simp only[vL,fx,Option.bind_some,bA,bT];have fin:∀Q:Prop,(Q↔((j.Ok=true->j.State=4∨j.State=5)/\(j.jg=true->j.State=4∨j.State=6)->wI j)/\True)->True:=λ_ _=>trivial;have d:(j.Start≠0->3<=j.State)->(j.End≠0->5<=j.State)->bY (if ((j.Ok&&(j.State != 4))&&(j.State != 5))=true then some false else if ((j.jg&&(j.State != 4))&&(j.State != 6))=true then some false else some true) λb=>b=true↔wI j:=λf m=>by
   simp only[aZ,aV,bp,EE,ne_eq];refine ⟨λq=>no λk=>by have:=k.ok q.1.1;omega,λn=>⟨λq=>no λk=>by have:=k.kill q.1.1;omega,λa=>?_⟩⟩;simp only[LI];refine ⟨hs,f,m,λo=>?_,λo=>?_⟩
   ·exact yBZ λg=>n ⟨⟨o,by omega⟩,by omega⟩
   ·exact yBZ λg=>a ⟨⟨o,by omega⟩,by omega⟩
  have mid:(j.Start≠0->3<=j.State)->bY (if (j.End != 0)=true then (if (!((j.State == 5) || (j.State == 6)))=true then some false else if ((j.Ok&&(j.State != 4))&&(j.State != 5))=true then some false else if ((j.jg&&(j.State != 4))&&(j.State != 6))=true then some false else some true) else if ((j.Ok&&(j.State != 4))&&(j.State != 5))=true then some false else if ((j.jg&&(j.State != 4))&&(j.State != 6))=true then some false else some true) λb=>b=true↔wI j:=λf=>by
   rw[aZ];refine ⟨λq=>?_,λq=>d f λi=>absurd i (by simpa using q)⟩;rw[aZ];refine ⟨λa=>?_,λa=>d f λ_=>?_⟩
   ·rw[aV];simp only[EE,ne_eq,eS,Bool.or_eq_false_iff,beq_eq_false_iff_ne] at q a;exact no λk=>by have:=k.fin q;omega
   ·simp only[eS,Bool.or_eq_false_iff,beq_eq_false_iff_ne] at a;omega
  rw[aZ];refine ⟨λq=>?_,λq=>mid λi=>absurd i (by simpa using q)⟩;rw[aZ];refine ⟨λa=>?_,λa=>mid λ_=>?_⟩
  ·rw[aV];simp only[EE,ne_eq,dZ,lO] at q a;exact no λk=>by have:=k.start q;omega
  ·simp only[dZ,lO] at a;omega
theorem yk(j:a_):fB (Wh 5000 j) (JM j):=by
 have no:∀{p:Prop},¬p->bY (some false) (λb=>b=true↔p):=λh=>by rw[aV];simp[h]
 simp only[Wh,Om,Option.bind_some];have a:∀{m n x:Int}{o:Option Bool}{P:Prop},(P->m<=x/\x<=n)->(m<=x/\x<=n->bY o λb=>b=true↔P)->bY (if (decide (m<=x)&&decide (x<=n))=true then o else some false) λb=>b=true↔P:=λq l=>by rw[aZ];simp only[bp,aQ];exact ⟨λh=>l h,λh=>no λp=>h (q p)⟩
 refine a (λk=>k.id) λc1=>a (λk=>k.user) λE=>a (λk=>k.queue) λF=>a (λk=>k.many) λG=>?_;refine (Rt j.az).bind λr w=>?_;rw[aZ];refine ⟨λh=>?_,λh=>no λk=>h ?_⟩
 rotate_left
 ·have K:aA.beq j.az bL=false:=by
   cases h:aA.beq j.az bL with
   |false=>rfl
   |true=>exact absurd (eI.1 h) k.wu
  rw[w.2 k.need];change (true&&!(aA.beq j.az bL))=true;rw[K];rfl
 simp only[bp,eS] at h;have L:=w.1 h.1;have s:j.az≠bL:=λe=>by have l:aA.beq j.az bL=false:=h.2;rw[eI.2 e] at l;cases l
 refine a (λk=>k.wall) λM=>?_;have g:fB (gJ 5000 j) (j.aP.length<=4/\∀d∈j.aP,1<=d.bC/\d.bC<=j.Id-1):=by
  simp only[gJ,aZ,aV,Om,Option.bind_some];refine ⟨λh=>?_,λh=>?_⟩
  ·simp only[aQ] at h;simp only[bA,zj];exact λk=>by omega
  ·simp only[aQ] at h;refine Oz j.aP (λd=>1<=d.bC/\d.bC<=j.Id-1) _ (λk=>k.2) (λi f y Q q l=>?_) (λf N=>?_) (by omega)
   ·simp only[cD y,if_true,bN y,Option.bind_some,bJ (show i<1000000 by omega),aZ,aV,eS,yBv,Vd];rw[wr (by omega) (by omega)];exact ⟨λe=>l (by omega),λe=>q (by omega)⟩
   ·simp only[dX,bA,bT,aV,LI];exact ⟨by omega,N⟩
 refine g.bind λT z=>?_;rw[aZ];refine ⟨λh=>?_,λh=>no λk=>h (z.2 ⟨k.Bk,k.after⟩)⟩;have A:=z.1 h;refine a (λk=>k.version) λO=>a (λk=>k.born) λS=>a (λk=>k.start) λt=>a (λk=>k.fin) λu=>a (λk=>k.arr) λv=>?_;refine (JJ j).bind λrs hs=>?_;rw[aV,hs];exact ⟨λk=>⟨c1,E,F,G,L,s,M,A.1,A.2,O,S,t,u,v,k⟩,λk=>k.state⟩
theorem CH(j:a_)(F:j.aP.length<=10):fB (zdr 5000 j) (JM j):=by
 simp only[zdr,il,NV,Option.bind_some];refine Oz j.aP (λd=>1<=d.bC/\d.bC<=IntKind.i64.wrap (j.Id-1)) _ (λk d hd=>by have:=k.after d hd;have:=k.id;rw[wr (by omega) (by omega)];omega) (λi f m Q a n=>?_) (λf q=>?_) (by omega)
 ·simp only[cD m,if_true,bN m,Option.bind_some,bJ (show i<1000000 by omega),aZ,aV,eS,yBv,Vd];exact ⟨λe=>n (by omega),λe=>a (by omega)⟩
 ·simp only[dX,bA,bT];obtain ⟨G,r,a⟩:=wN j.az;simp only[r,Option.bind_some];have no:∀{p:Prop},¬p->(False↔p):=λh=>by simp[h]
  simp only[if_true,bT,aZ,aV,aQ,eS,yBv,Vd,bp,bA,lN,EE,ne_eq,dZ,lO];refine ⟨λc=>no λk=>by have:=k.Bk;omega,λK=>⟨λc=>no λk=>by have:=k.id;omega,λc1=>⟨λc=>no λk=>by have:=k.user;omega,λL=>⟨λc=>no λk=>by have:=k.queue;omega,λM=>⟨λc=>no λk=>by have:=k.many;omega,λN=>⟨λc=>no λk=>(by have:=a.2 k.need;rw[c] at this;cases this),λs=>?_⟩⟩⟩⟩⟩⟩;have v:=a.1 s;have t:Mt 5000 j.az ({ br:=0,Mem:=0,bx:=0,bD:=0 }:aA)=some (decide (j.az=bL)):=En v;simp only[if_true,bT,t,Option.bind_some,aZ,aV,aQ,eS,yBv,Vd,bp,bA,lN,EE,ne_eq,dZ,lO];refine ⟨λc=>no λk=>k.wu c,λu=>⟨λc=>no λk=>by have:=k.wall;omega,λO=>⟨λc=>no λk=>by have:=k.state.st;omega,λS=>⟨λc=>no λk=>by have:=k.version;omega,λT=>⟨λc=>no λk=>by have:=k.arr;omega,λw=>⟨λc=>no λk=>by have:=k.born;omega,λx=>⟨λc=>no λk=>by have:=k.start;omega,λy=>⟨λc=>no λk=>by have:=k.fin;omega,λz=>⟨λc=>no λk=>by have:=k.state.start;omega,λA=>⟨λc=>no λk=>by have:=k.state.fin;omega,λE=>⟨λg=>?_,λc=>no λk=>c ?_⟩⟩⟩⟩⟩⟩⟩⟩⟩⟩⟩
  ·constructor
   ·intro l;refine ⟨by omega,by omega,by omega,by omega,v,u,by omega,by omega,λd hd=>?_,by omega,by omega,by omega,by omega,by omega,⟨by omega,by omega,by omega,λo=>?_,λo=>?_⟩⟩
    ·have:=q d hd;rw[wr (by omega) (by omega)] at this;exact this
    ·rcases g with (c | c) | c
     ·rw[o] at c;cases c
     ·exact .inl c
     ·exact .inr c
    ·rcases l with (c | c) | c
     ·rw[o] at c;cases c
     ·exact .inl c
     ·exact .inr c
   ·intro k;cases hk:j.jg with
    |false=>exact .inl (.inl rfl)
    |true=>
     rcases k.state.kill hk with c | c
     ·exact .inl (.inr c)
     ·exact .inr c
  ·cases hk:j.Ok with
   |false=>exact .inl (.inl rfl)
   |true=>
    rcases k.state.ok hk with c | c
    ·exact .inl (.inr c)
    ·exact .inr c
end Go.Plain
end
section
namespace Go.Plain
open Go.Abs
section
variable{X R:Type}{b:(X->Option R)->X->Option R}{Q:R->Prop}
theorem lpM(I:X->Prop)(m:X->Nat)(hs:∀x f,I x->(∀d,I d->m d<m x->bY (f d) Q)->bY (b f x) Q){a:X}(g:I a){N:Nat}(i:m a<N):bY (bo b N a) Q:=by
 induction N generalizing a with
 |zero=>omega
 |succ N ih=>exact hs a _ g λd e h=>ih e (by omega)
end
theorem mid{i j:Nat}(h:i+j<1000000):IntKind.i64.wrap (Int.fdiv (IntKind.u64.wrap (IntKind.i64.wrap ((i:Int)+(j:Int)))) (2 ^ 1))=(((i+j) / 2:Nat):Int):=by
 rw[wr (x:=(i:Int)+(j:Int)) (by omega) (by omega)];have a:IntKind.u64.wrap ((i:Int)+(j:Int))=(i:Int)+(j:Int):=by simp only[IntKind.wrap,IntKind.bits,IntKind.signed];simp;omega
 rw[a,Int.fdiv_eq_ediv_of_nonneg _ (by decide)];have:((i:Int)+(j:Int)) / 2 ^ 1=(((i+j) / 2:Nat):Int):=by omega
 rw[this,wr (by omega) (by omega)]
def cH(l:List a_):Prop:=∀i (h:i+1<l.length),l[i].Id<l[i+1].Id
theorem cH.lt{l:List a_}(h:cH l):∀{i j:Nat}(s:i<j)(x:j<l.length),l[i].Id<l[j].Id:=by
 intro i j s x;induction j with
 |zero=>omega
 |succ j ih=>
  have z:=h j x;rcases Dx (Kv.1 s) with u | u
  ·have:=ih u (by omega);omega
  ·subst u;exact z
theorem cH.inj{l:List a_}(h:cH l){i j:Nat}(u:i<l.length)(x:j<l.length)(e:l[i].Id=l[j].Id):i=j:=by
 rcases Qc i j with s | s | s
 ·have:=h.lt s x;omega
 ·exact s
 ·have:=h.lt s u;omega
structure At (l:List a_) (id:Int) (r:Int):Prop where
 lo:0<=r
 hi:r.toNat<l.length
 is:l[r.toNat].Id=id
theorem At.mem{l:List a_}{id r:Int}(h:At l id r):∃j∈l,j.Id=id:=⟨l[r.toNat]'h.hi,bn _,h.is⟩
theorem At.t_{l:List a_}{id r j:Int}(hs:cH l)(h:At l id r)(i:At l id j):r=j:=by have:=hs.inj h.hi i.hi (by rw[h.is,i.is]);have:=h.lo;have:=i.lo;omega
theorem half{l:List a_}(w:l.length<=300)(hs:cH l)(id:Int){R:Type}{Q:R->Prop}(C:a_->Option Bool)(s:∀j∈l,C j=some (decide (j.Id<id)))(E:Int->Option R)
  (t:∀i:Nat,i<=l.length->(∀k (h:k<l.length),k<i->l[k].Id<id)->(∀k (h:k<l.length),i<=k->id<=l[k].Id)->bY (E (i:Int)) Q) :
  ∀ (b : (Int × Int -> Option R) -> Int × Int -> Option R), (∀ f x, b f x = if decide (x.1 < x.2) = true then (aB l (IntKind.i64.wrap (Int.fdiv (IntKind.u64.wrap (IntKind.i64.wrap (x.1 + x.2))) (2 ^ 1)))).bind λa => (C a).bind λc => if c = true then f ((IntKind.i64.wrap ((IntKind.i64.wrap (Int.fdiv (IntKind.u64.wrap (IntKind.i64.wrap (x.1 + x.2))) (2 ^ 1))) + 1)), x.2) else f (x.1, (IntKind.i64.wrap (Int.fdiv (IntKind.u64.wrap (IntKind.i64.wrap (x.1 + x.2))) (2 ^ 1)))) else E x.1) ->
   bY (bo b 5000 (0,(l.length:Int))) Q:=by
 intro b u;refine lpM (λx=>∃i j:Nat,x=((i:Int),(j:Int))/\i<=j/\j<=l.length/\(∀k (h:k<l.length),k<i->l[k].Id<id)/\(∀k (h:k<l.length),j<=k->id<=l[k].Id)) (λx=>(x.2-x.1).toNat) (λx f v m=>?_) ⟨0,l.length,rfl,by omega,by omega,λk h hk=>by omega,λk h hk=>by omega⟩ (by dsimp only;omega);obtain ⟨i,j,rfl,y,n,p,r⟩:=v;rw[u,aZ];dsimp only;refine ⟨λh=>?_,λh=>?_⟩
 ·simp only[aQ] at h;rw[mid (by omega)];have g:(i+j) / 2<l.length:=by omega
  rw[bN g,aE,s _ (bn g),aE,aZ];refine ⟨λe=>?_,λe=>?_⟩
  ·simp only[aQ] at e;rw[bJ (by omega)];refine m _ ⟨(i+j) / 2+1,j,rfl,by omega,n,λk hk d=>?_,r⟩ (by dsimp only;omega);rcases Dx (Kv.1 d) with q | q
   ·have:=hs.lt q g;omega
   ·subst q;exact e
  ·simp only[aQ] at e;refine m _ ⟨i,(i+j) / 2,rfl,by omega,by omega,p,λk hk d=>?_⟩ (by dsimp only;omega);rcases Dx d with q | q
   ·have:=hs.lt q hk;omega
   ·subst q;omega
 ·simp only[aQ] at h;have:i=j:=by omega
  subst this;exact t i n p r
theorem OC{l:List a_}(n:l.length<=300)(hs:cH l){id:Int}(p:0<=id/\id<=1048576)(g:∀j∈l,0<=j.Id/\j.Id<=1048576):bY (lM 5000 l id) λr=>(r.2=true↔∃j∈l,j.Id=id)/\(r.2=true->At l id r.1):=by
 simp only[lM,zaw];rw[nJ];refine half n hs id (λj=>some (decide (IntKind.i64.wrap (j.Id-id)<0))) (λj d=>?_) (λi=>if (decide (i<(l.length:Int)))=true then (aB l i).bind λs=>(fH 5000 s id).bind λt=>some (i,(t == 0)) else some (i,false)) (λi v m u=>?_) _ (λf x=>rfl)
 ·have:=g j d;rw[wr (by omega) (by omega)];congr 1;rw[Bool.eq_iff_iff];simp only[aQ];omega
 ·rw[aZ];refine ⟨λh=>?_,λh=>?_⟩
  ·simp only[aQ] at h;have a:i<l.length:=by omega
   have:=g _ (bn a);rw[bN a,aE];simp only[fH,Option.bind_some,aV,lO];rw[wr (by omega) (by omega)];refine ⟨⟨λe=>⟨_,bn a,by omega⟩,λ⟨j,d,e⟩=>?_⟩,λe=>⟨by omega,by simpa using a,by simp;omega⟩⟩;obtain ⟨k,hk,rfl⟩:=jj d;rcases Qc k i with q | q | q
   ·have:=m k hk q;omega
   ·subst q;omega
   ·have:=hs.lt q hk;have:=u i a (by omega);omega
  ·simp only[aQ] at h;simp only[aV,bA,zj,false_implies,Iq];rintro ⟨j,d,e⟩;obtain ⟨k,hk,rfl⟩:=jj d;have:=m k hk (by omega);omega
theorem wj{l:List a_}(g:l.length<=300)(id:Int):bY (Wd 5000 l id) λr=>(0<=r↔∃j∈l,j.Id=id)/\(0<=r->At l id r)/\(r<0->r=-1):=by
 simp only[Wd];refine um l (λ_ j=>j.Id≠id) (λi f h _ a=>?_) (λf h=>?_) (by omega)
 ·simp only[cD h,if_true,bN h,Option.bind_some,bJ (show i<1000000 by omega),aZ,aV,lO];exact ⟨λe=>⟨⟨λ_=>⟨_,bn h,e⟩,λ_=>by omega⟩,λ_=>⟨by omega,by simpa using h,by simpa using e⟩,λh=>by omega⟩,λe=>a e⟩
 ·simp only[dX,bA,bT,aV];refine ⟨⟨λh=>by omega,λ⟨j,d,e⟩=>absurd e (BZ (A:=λj=>j.Id≠id) h j d)⟩,λh=>by omega,λ_=>trivial⟩
structure zP (l:List dq) (n:Int) (i:Nat) (x:dq):Prop where
 up:Ks (l.map (·.Node)) i<x.Node
 lt:x.Node<n
 lo:1<=x.aJ
 hi:x.aJ<=64
def bM(l:List dq)(n:Int):Prop:=∀i (h:i<l.length),zP l n i l[i]
theorem bM.node{l:List dq}{n:Int}(h:bM l n):mg (l.map (·.Node)) n:=λi j=>by rw[ql] at j;rw[GB];exact ⟨(h i j).up,(h i j).lt⟩
theorem bM.mem{l:List dq}{n:Int}(h:bM l n):∀x∈l,0<=x.Node/\x.Node<n/\1<=x.aJ/\x.aJ<=64:=λx j=>by have s:=h.node.mem x.Node (dY.2 ⟨x,j,rfl⟩);obtain ⟨i,z,rfl⟩:=jj j;have u:=h i z;exact ⟨s.1,s.2,u.lo,u.hi⟩
theorem xp{l:List dq}{i:Nat}(h:i<l.length):Ks (l.map (·.Node)) (i+1)=l[i].Node:=by rw[rU (by simpa using h),GB]
theorem qP(l:List dq)(n:Int)(s:l.length<=300):fB (fo 5000 l n) (bM l n):=by
 simp only[fo];refine jA l.length (λi x=>x=(Ks (l.map (·.Node)) i,(i:Int))/\∀j (d:j<l.length),j<i->zP l n j l[j]) (λi x f a e p=>?_) (λx f e=>?_) ⟨rfl,λj d h=>by omega⟩ (by omega)
 ·obtain ⟨rfl,g⟩:=e;simp only[cD a,if_true,bN a,Option.bind_some,bJ (show i<1000000 by omega),aZ,aV,dZ,aQ];refine ⟨λh=>?_,λh=>p _ ⟨by rw[xp a],λj d k=>?_⟩⟩
  ·simp only[bA,zj];intro r;have q:=r i a;have t:=q.up;have u:=q.lt;have v:=q.lo;have w:=q.hi;omega
  ·rcases Dx (Kv.1 k) with m | m
   ·exact g j d m
   ·subst m;exact ⟨by omega,by omega,by omega,by omega⟩
 ·obtain ⟨rfl,g⟩:=e;simp only[dX,bA,bT,aV,LI];exact λi a=>g i a a
theorem Ek(l:List dq)(n:Int)(u:l.length<=300):fB (zbm 5000 l n) (bM l n):=by
 simp only[zbm,il];refine um l (λi a=>zP l n i a) (λi f h v e=>?_) (λf h=>?_) (by omega)
 ·have hd:decide ((i:Int) > 0)=decide (0<i):=by simp
  simp only[cD h,if_true,bN h,Option.bind_some,bJ (show i<1000000 by omega),aZ,aV,aQ,hd,bA,bT];have bad:¬(zP l n i l[i])->(False↔bM l n):=λg=>by simp only[zj];exact λd=>g (d i h)
  refine ⟨λj=>?_,λj=>⟨λp=>bad λk=>by have:=k.lt;omega,λp=>⟨λq=>bad λk=>by have:=k.lo;omega,λq=>⟨λr=>bad λk=>by have:=k.hi;omega,λr=>⟨λs=>?_,λs=>?_⟩⟩⟩⟩⟩
  ·simp only[zj];intro d;have:=(d.mem _ (bn h)).1;omega
  ·obtain ⟨m,rfl⟩:∃m,i=m+1:=⟨i-1,by omega⟩;rw[wp1 (show m+1<1000000 by omega),bN (show m<l.length by omega)];simp only[Option.bind_some,aZ,aQ,aV,bA];exact ⟨λt=>bad λk=>by have:=k.up;rw[xp (by omega)] at this;omega,λt=>e ⟨by rw[xp (by omega)];omega,by omega,by omega,by omega⟩⟩
  ·have:i=0:=by omega
   subst this;exact e ⟨by simp only[Ks];omega,by omega,by omega,by omega⟩
 ·simp only[dX,bA,bT,aV,LI];exact h
def pP(l:List dq):Int:=(l.map (·.aJ)).sum
theorem Te{l:List dq}(h:∀x∈l,1<=x.aJ/\x.aJ<=64):0<=pP l/\pP l<=64 * l.length:=by
 induction l with
 |nil=>simp[pP]
 |cons x l ih=>have:=ih λy a=>h y (h_ _ a);have:=h x (iz ..);simp only[pP,iH,List.sum_cons,List.length_cons] at *;omega
theorem HL{l:List dq}{i:Nat}(h:i<l.length):pP (l.take (i+1))=pP (l.take i)+l[i].aJ:=by rw[vU h];simp only[pP,Ic,iH,TI,yBS,List.sum_cons,List.sum_nil];omega
theorem Hp{l:List dq}{n:Int}(j:l.length<=300)(h:bM l n):mh 5000 l=some (pP l):=by
 simp only[mh];refine bY.eq (jA l.length (λi x=>x=(pP (l.take i),(i:Int))) (λi x f d a e=>?_) (λx f a=>?_) (by simp[pP]) (by omega))
 ·subst a;have q:=h.mem _ (bn d);have b:=Te (l:=l.take i) λx a=>(h.mem x (Kw a)).2.2;have k:((l.take i).length:Int)<=300:=by rw[km];omega
  have g:zc0 5000 l[i].aJ 0 64=some l[i].aJ:=by simp only[zc0];rw[if_neg (by simp;omega),if_neg (by simp;omega)]
  simp only[cD d,if_true,bN d,Option.bind_some,g,bJ (show i<1000000 by omega)];rw[wr (by omega) (by omega)];exact e _ (by rw[HL d])
 ·subst a;simp only[dX,bA,bT,aV,uo]
theorem QG{l:List dq}{n:Int}(g:l.length<=300)(h:bM l n):zdu 5000 l=some (pP l):=by
 simp only[zdu,il];refine bY.eq (jA l.length (λi x=>x=(pP (l.take i),(i:Int))) (λi x f d a e=>?_) (λx f a=>?_) (by simp[pP]) (by omega))
 ·subst a;have q:=h.mem _ (bn d);have b:=Te (l:=l.take i) λx a=>(h.mem x (Kw a)).2.2;have j:((l.take i).length:Int)<=300:=by rw[km];omega
  simp only[cD d,if_true,bN d,Option.bind_some,bJ (show i<1000000 by omega)];rw[if_neg (by simp;omega),if_pos (by simp;omega),wr (by omega) (by omega)];exact e _ (by rw[HL d])
 ·subst a;simp only[dX,bA,bT,aV,uo]
theorem HG(l:List Int)(g:l.length<=300)(x:Int):fB (zbR 5000 l x) (x∈l):=by
 simp only[fB,zbR,zdO];rw[nJ];refine um l (λ_ y=>x≠y) (λi f h _ a=>?_) (λf h=>?_) (by omega)
 ·simp only[cD h,if_true,bN h,Option.bind_some,bJ (show i<1000000 by omega),aZ,lO];refine ⟨λe=>?_,λe=>a e⟩;simp only[aV,aQ];exact ⟨λ_=>by rw[e];exact bn h,λ_=>by omega⟩
 ·simp only[dX,bA,bT,aV,aQ];exact ⟨λh=>by omega,λd=>absurd rfl (BZ (A:=λy=>x≠y) h x d)⟩
theorem YU(l:List Int)(g:l.length<=300)(x:Int):fB (zes 5000 l x) (x∈l):=by
 simp only[zes];refine um l (λ_ y=>y≠x) (λi f h _ a=>?_) (λf h=>?_) (by omega)
 ·simp only[cD h,if_true,bN h,Option.bind_some,bJ (show i<1000000 by omega),aZ,lO,aV,LI];exact ⟨λe=>by rw[<-e];exact bn h,λe=>a e⟩
 ·simp only[dX,bA,bT,aV,zj];exact λd=>absurd rfl (BZ (A:=λy=>y≠x) h x d)
structure Fa (s:bq) (j:a_) (l:List dq):Prop where
 shares:bM l s.aq.length
 tot:pP l=j.aJ
 q:0<=j.Queue/\j.Queue<s.am.length
 part:∀x∈l,x.Node∈(s.aF[((s.am[j.Queue.toNat]?).getD default).Part.toNat]?).getD []
theorem VF{s:bq}(hs:oV s)(k:bS s)(j:a_)(l:List dq)(q:l.length<=300):fB (mE 5000 s j l) (Fa s j l):=by
 have no:∀{p:Prop},¬p->bY (some false) (λb=>b=true↔p):=λh=>by rw[aV];simp[h]
 simp only[mE,il];refine (qP l _ q).bind λr a=>?_;rw[aZ];refine ⟨λh=>?_,λh=>?_⟩
 ·simp only[if_true];exact no λk=>by have:=a.2 k.shares;rw[this] at h;cases h
 ·simp only[eS,lN] at h;have S:=a.1 h;rw[Hp q S,aE,aZ];refine ⟨λg=>no λk=>by have:=k.tot;simp[this] at g,λg=>?_⟩;have y:pP l=j.aJ:=by simpa using g
  rw[aZ];refine ⟨λm=>no λk=>by have:=k.q;simp at m;omega,λm=>?_⟩;have n:0<=j.Queue/\j.Queue<s.am.length:=by simp at m;omega
  obtain ⟨d,e⟩:=ff n.1 n.2;have t:=k.fQ.ok _ (bn d);obtain ⟨u,z⟩:=ff t.part.1 t.part.2;have lp:=hs.part _ (bn u);have v:(s.aF[((s.am[j.Queue.toNat]?).getD default).Part.toNat]?).getD []=s.aF[s.am[j.Queue.toNat].Part.toNat]:=by rw[cT d];simp only[Option.getD_some];rw[cT u];rfl
  rw[e,aE,z,aE];refine Oz l (λx=>x.Node∈s.aF[s.am[j.Queue.toNat].Part.toNat]) _ (λk x d=>by rw[<-v];exact k.part x d) (λi f w Q A E=>?_) (λf F=>?_) (by omega)
  ·simp only[cD w,if_true,bN w,Option.bind_some,bJ (show i<1000000 by omega)];refine (HG _ (jz lp (by decide)) _).bind λr a=>?_;simp only[aZ,aV,eS,lN];exact ⟨λe=>E (by rw[<-a,e];simp),λe=>A (a.1 e)⟩
  ·simp only[dX,bA,bT,aV,LI];exact ⟨S,y,n,by rw[v];exact F⟩
theorem Tu{s:bq}(hs:oV s)(k:bS s)(j:a_)(l:List dq)(n:l.length<=300):fB (zdW 5000 s j l) (Fa s j l):=by
 have no:∀{p:Prop},¬p->bY (some false) (λb=>b=true↔p):=λh=>by rw[aV];simp[h]
 simp only[zdW,il];refine (Ek l _ n).bind λr a=>?_;rw[aZ];refine ⟨λh=>?_,λh=>?_⟩
 ·simp only[if_true];exact no λk=>by have:=a.2 k.shares;rw[this] at h;cases h
 ·simp only[eS,lN] at h;have S:=a.1 h;rw[QG n S,aE,aZ];refine ⟨λg=>no λk=>by have:=k.tot;have:=k.q;simp at g;omega,λg=>?_⟩;have q:pP l=j.aJ/\0<=j.Queue/\j.Queue<s.am.length:=by simp at g;omega
  have m:=q.2;obtain ⟨d,e⟩:=ff m.1 m.2;have t:=k.fQ.ok _ (bn d);obtain ⟨u,y⟩:=ff t.part.1 t.part.2;have lp:=hs.part _ (bn u);have v:(s.aF[((s.am[j.Queue.toNat]?).getD default).Part.toNat]?).getD []=s.aF[s.am[j.Queue.toNat].Part.toNat]:=by rw[cT d];simp only[Option.getD_some];rw[cT u];rfl
  rw[e,aE,y,aE];refine Oz l (λx=>x.Node∈s.aF[s.am[j.Queue.toNat].Part.toNat]) _ (λk x d=>by rw[<-v];exact k.part x d) (λi f w Q z A=>?_) (λf E=>?_) (by omega)
  ·simp only[cD w,if_true,bN w,Option.bind_some,bJ (show i<1000000 by omega)];refine (YU _ (jz lp (by decide)) _).bind λr a=>?_;simp only[aZ,aV,eS,lN];exact ⟨λe=>A (by rw[<-a,e];simp),λe=>z (a.1 e)⟩
  ·simp only[dX,bA,bT,aV,LI];exact ⟨S,q.1,m,by rw[v];exact E⟩
end Go.Plain
end
section
namespace Go.Plain
open Go.Abs
def cmp:Nat->aA->Int
 |0,r=>r.br
 |1,r=>r.Mem
 |2,r=>r.bx
 |_,r=>r.bD
theorem zW{r:aA}:aK r↔∀c,0<=cmp c r/\cmp c r<=1048576:=by
 constructor
 ·intro h c
  match c with
  |0=>exact h.Ex
  |1=>exact h.mem
  |2=>exact h.Hd
  |_+3=>exact h.IC
 ·intro h;exact ⟨h 0,h 1,h 2,h 3⟩
theorem eH{a b:aA}(h:∀c,cmp c a=cmp c b):a=b:=by obtain ⟨i,j,k,l⟩:=a;obtain ⟨m,n,p,q⟩:=b;have d:=h 0;have e:=h 1;have f:=h 2;have g:=h 3;simp only[cmp] at d e f g;subst d e f g;rfl
def jF(a b:aA):aA:={ br:=a.br-b.br,Mem:=a.Mem-b.Mem,bx:=a.bx-b.bx,bD:=a.bD-b.bD }
def yr(a b:aA):aA:={ br:=a.br+b.br,Mem:=a.Mem+b.Mem,bx:=a.bx+b.bx,bD:=a.bD+b.bD }
def mulR(n:Int)(a:aA):aA:={ br:=n * a.br,Mem:=n * a.Mem,bx:=n * a.bx,bD:=n * a.bD }
theorem Gg(c:Nat)(a b:aA):cmp c (jF a b)=cmp c a-cmp c b:=by match c with | 0=>rfl | 1=>rfl | 2=>rfl | _+3=>rfl
theorem wG(c:Nat)(a b:aA):cmp c (yr a b)=cmp c a+cmp c b:=by match c with | 0=>rfl | 1=>rfl | 2=>rfl | _+3=>rfl
theorem Kq(c:Nat)(n:Int)(a:aA):cmp c (mulR n a)=n * cmp c a:=by match c with | 0=>rfl | 1=>rfl | 2=>rfl | _+3=>rfl
theorem Nl(c:Nat):cmp c bL=0:=by match c with | 0=>rfl | 1=>rfl | 2=>rfl | _+3=>rfl
theorem zY{a:Int}(h:a.natAbs<2 ^ 53):wT a=some a:=by unfold wT;rw[if_pos h]
theorem El{a b c d:Int}(g:a.natAbs<2 ^ 53)(i:b.natAbs<2 ^ 53)(j:c.natAbs<2 ^ 53)(hd:d.natAbs<2 ^ 53) :
  bY (zdj 5000 (a,b) (c,d)) λr=>(r.2=0↔aK ⟨a,b,c,d⟩)/\(r.2=0->r.1=⟨a,b,c,d⟩):=by
 simp only[zdj,lq,zY g,zY i,zY j,zY hd,Option.bind_some];refine (Rt _).bind λr f=>?_;simp only[aZ,aV,eS,lN];refine ⟨λe=>⟨⟨λh=>by omega,λv=>by have:=f.2 v;rw[e] at this;cases this⟩,λh=>by omega⟩,λe=>⟨⟨λ_=>f.1 e,λ_=>trivial⟩,λ_=>trivial⟩⟩
theorem jx{n x:Int}(a:0<=n/\n<=64)(d:0<=x/\x<=1048576):0<=n * x/\n * x<=67108864:=by have e:0<=n * x:=yBL a.1 d.1;have f:n * x<=64 * x:=yBa a.2 d.1;omega
theorem HI{a:aA}{n:Int}(d:aK a)(m:1<=n/\n<=64):bY (nN 5000 a n) λr=>(r.2=0↔aK (mulR n a))/\(r.2=0->r.1=mulR n a):=by
 simp only[nN];obtain ⟨p,i,j⟩:=Rt a;have k:=j.2 d;subst k;have e:0<=n/\n<=64:=by omega
 simp only[i,Option.bind_some,Fj,Bool.false_or];rw[if_neg (by simp;omega)];by_cases g:a=bL
 ·subst g;rw[if_pos (by exact eI.2 rfl),aV];have:mulR n bL=bL:=by simp[mulR,bL]
  rw[this];exact ⟨⟨λ_=>⟨by simp[bL],by simp[bL],by simp[bL],by simp[bL]⟩,λ_=>rfl⟩,λ_=>rfl⟩
 ·rw[if_neg (show ¬(aA.beq a ({ br:=0,Mem:=0,bx:=0,bD:=0 }:aA)=true) from λh=>g (eI.1 h)),if_neg (by simp;omega)];have f:∀{x:Int},0<=x/\x<=1048576->uy x n=some (x * n):=λ{x} q=>by unfold uy;rw[if_pos (by omega)]
  have s:=jx e d.Ex;have t:=jx e d.mem;have u:=jx e d.Hd;have v:=jx e d.IC;simp only[zcO,Option.bind_some,f d.Ex,f d.mem,f d.Hd,f d.IC];rw[Int.mul_comm a.br n,Int.mul_comm a.Mem n,Int.mul_comm a.bx n,Int.mul_comm a.bD n];refine (El (by omega) (by omega) (by omega) (by omega)).bind λr l=>?_;rw[aV];exact l
theorem UL{a b:aA}(d:aK a)(e:aK b):bY (vY 5000 a b) λr=>(r.2=0↔aK (jF a b))/\(r.2=0->r.1=jF a b):=by
 simp only[vY,il];obtain ⟨n,g,h⟩:=Rt a;have i:=h.2 d;subst i;obtain ⟨p,j,k⟩:=Rt b;have l:=k.2 e;subst l;have f:∀{x y:Int},0<=x/\x<=1048576->0<=y/\y<=1048576->uO x y=some (x-y):=λ{x y} q s=>by unfold uO;rw[if_pos (by omega)]
 simp only[g,j,Option.bind_some,Fj,bA,bT,zcO,f d.Ex e.Ex,f d.mem e.mem,f d.Hd e.Hd,f d.IC e.IC];have:=d.Ex;have:=d.mem;have:=d.Hd;have:=d.IC;have:=e.Ex;have:=e.mem;have:=e.Hd;have:=e.IC;refine (El (by omega) (by omega) (by omega) (by omega)).bind λr m=>?_;rw[aV];exact m
def dw(l:List dq)(i:Int):Int:=(l.map λx=>if x.Node=i then x.aJ else 0).sum
theorem iR{l:List dq}{k:Nat}(h:k<l.length)(i:Int):dw (l.take (k+1)) i=dw (l.take k) i+if l[k].Node=i then l[k].aJ else 0:=by rw[vU h];simp only[dw,Ic,iH,TI,yBS,List.sum_cons,List.sum_nil];omega
theorem oR{l:List dq}(h:∀x∈l,0<=x.aJ)(i:Int):0<=dw l i:=by
 induction l with
 |nil=>simp[dw]
 |cons x l ih=>have:=ih λy a=>h y (h_ _ a);have:=h x (iz ..);simp only[dw,iH,List.sum_cons] at *;split <;> omega
theorem zR{l m:List dq}(i:Int):dw (l++m) i=dw l i+dw m i:=by simp[dw]
theorem ME{l:List dq}(h:∀x∈l,0<=x.aJ)(k:Nat)(i:Int):dw (l.take k) i<=dw l i:=by have:=zR (l:=l.take k) (m:=l.drop k) i;rw[yBu] at this;have:=oR (l:=l.drop k) (λx a=>h x (Zn a)) i;omega
theorem xy{l:List dq}{n:Int}(h:bM l n)(i:Int):0<=dw l i/\dw l i<=64:=by
 refine ⟨oR (λx g=>by have:=h.mem x g;omega) i,?_⟩;have d:∀k,k<=l.length->(dw (l.take k) i<=64/\(dw (l.take k) i≠0->i<=Ks (l.map (·.Node)) k)):=by
  intro k;induction k with
  |zero=>intro _;simp[dw]
  |succ k ih=>
   intro hk;obtain ⟨j,f⟩:=ih (by omega);have s:=h k (by omega);have s1:=s.up;have m:=s.lt;have p:=s.lo;have q:=s.hi;rw[iR (by omega),xp (show k<l.length by omega)];split
   ·rename_i e;by_cases a:dw (l.take k) i=0
    ·rw[a];omega
    ·have:=f a;omega
   ·rename_i e;rw[xAg];exact ⟨j,λa=>by have:=f a;omega⟩
 have:=(d l.length (cn _)).1
 rwa [uo] at this
theorem KJ{l:List dq}{n:Int}(m:l.length<=300)(h:bM l n)(i:Int):zcL 5000 l i=some (dw l i):=by
 simp only[zcL,il];refine bY.eq (jA l.length (λk x=>x=(dw (l.take k) i,(k:Int))) (λk x f d a j=>?_) (λx f a=>?_) (by simp[dw]) (by omega))
 ·subst a;have q:=h.mem _ (bn d);have b:=oR (l:=l.take k) (λx a=>by have:=h.mem x (Kw a);omega) i;have p:=ME (λx a=>by have:=h.mem x a;omega) k i;have r:=xy h i;have e:=iR d i;simp only[cD d,if_true,bN d,Option.bind_some,bJ (show k<1000000 by omega),aZ,lO];refine ⟨λg=>?_,λg=>j _ ?_⟩
  ·rw[if_pos g] at e;rw[wr (by omega) (by omega)];exact j _ (by rw[e])
  ·rw[if_neg g] at e;rw[e,xAg]
 ·subst a;simp only[dX,bA,bT,aV,uo]
def wX(a:cN)(i:Nat)(r:aA):aA:=jF r (mulR (dw a.ah i) a.az)
def yW(F:List aA)(a:cN):Prop:=∀i (h:i<F.length),aK (wX a i F[i])
structure Bx (F:List aA) (a:cN) (G:List aA):Prop where
 len:G.length=F.length
 iM:∀i (h:i<G.length),G[i]=wX a i (F[i]'(by rw[<-len];exact h))
theorem PX{a:cN}{F:List aA}(hF:F.length<=300)(hl:a.ah.length<=300)(U:bM a.ah F.length)(K:aK a.az)(Z:∀r∈F,aK r) :
  bY (zbB 5000 a F) λr=>(r.2=0↔yW F a)/\(r.2=0->Bx F a r.1):=by
 simp only[zbB,zbk,Gt (show F.length<=1000000 by omega),Option.bind_some];have nn:∀x∈a.ah,0<=x.aJ:=λx t=>by have:=U.mem x t;omega
 refine jA a.ah.length (λk x=>x.1=(k:Int)/\x.2.length=F.length/\(∀r∈x.2,aK r)/\∀i (h:i<x.2.length) (m:i<F.length),x.2[i]=jF F[i] (mulR (dw (a.ah.take k) i) a.az)) (λk x f hk t hr=>?_) (λx f t=>?_) ⟨rfl,rfl,Z,λi h m=>?_⟩ (by omega)
 ·obtain ⟨x1,G⟩:=x;obtain ⟨rfl,d,g,j⟩:=t;dsimp only at d g j ⊢;have q:=U.mem _ (bn hk);have L:a.ah[k].Node.toNat<G.length:=by omega
  have z:a.ah[k].Node.toNat<F.length:=by omega
  have M:((a.ah[k].Node.toNat:Nat):Int)=a.ah[k].Node:=by omega
  have tk:=iR hk a.ah[k].Node;rw[if_pos rfl] at tk;have le:=ME nn (k+1) a.ah[k].Node;have n0:=oR (l:=a.ah.take k) (λx t=>nn x (Kw t)) a.ah[k].Node;have N:=j _ L z;rw[M] at N;have bad:(∃c,cmp c G[a.ah[k].Node.toNat]-a.ah[k].aJ * cmp c a.az<0)->¬yW F a:=λ⟨c,A⟩ E=>by have O:=zW.1 (E _ z) c;rw[wX,Gg,Kq,M] at O;rw[N,Gg,Kq] at A;have u:0<=cmp c a.az:=(zW.1 K c).1;have h3:(dw (a.ah.take k) a.ah[k].Node+a.ah[k].aJ) * cmp c a.az<=dw a.ah a.ah[k].Node * cmp c a.az:=yBa (by omega) u;rw[Int.add_mul] at h3;omega
  simp only[cD hk,if_true,bN hk,Option.bind_some,bJ (show k<1000000 by omega)];refine (HI K q.2.2).bind λr w=>?_;simp only[aZ,aV,EE,ne_eq,Pt];refine ⟨λh=>⟨⟨λm=>absurd m h,λE=>?_⟩,λm=>absurd m h⟩,λh=>?_⟩
  ·exfalso;refine bad ?_ E;have n:¬aK (mulR a.ah[k].aJ a.az):=λv=>h (w.1.2 v);rw[zW] at n;obtain ⟨c,A⟩:=Classical.not_forall.1 n;refine ⟨c,?_⟩;rw[Kq] at A;have O:=jx (show 0<=a.ah[k].aJ/\a.ah[k].aJ<=64 by omega) (zW.1 K c);have u:=zW.1 (g _ (bn L)) c;omega
  ·have e1:=w.2 h;have v1:=w.1.1 h;obtain ⟨aa,e⟩:=ff (l:=G) (x:=a.ah[k].Node) (by omega) (by omega);rw[e,aE,e1];refine (UL (g _ (bn L)) v1).bind λr2 y=>?_;simp only[Option.bind_some,aZ,aV,EE,ne_eq,Pt];refine ⟨λm=>⟨⟨λu=>absurd u m,λE=>?_⟩,λu=>absurd u m⟩,λm=>?_⟩
   ·exfalso;refine bad ?_ E;have n:¬aK (jF G[a.ah[k].Node.toNat] (mulR a.ah[k].aJ a.az)):=λv=>m (y.1.2 v);rw[zW] at n;obtain ⟨c,A⟩:=Classical.not_forall.1 n;refine ⟨c,?_⟩;rw[Gg,Kq] at A;have O:=jx (show 0<=a.ah[k].aJ/\a.ah[k].aJ<=64 by omega) (zW.1 K c);have u:=zW.1 (g _ (bn L)) c;omega
   ·have W:=y.2 m;have v2:=y.1.1 m;refine hr _ ⟨rfl,by simpa using d,λr p=>?_,λi S T=>?_⟩
    ·dsimp only at p;rcases yBY p with p | rfl
     ·exact g r p
     ·rw[W];exact v2
    ·dsimp only at S ⊢;rw[yBB] at S;rw[List.getElem_set];have s:=iR hk (i:Int);split
     ·rename_i Y;subst Y;rw[W,N];rw[if_pos M.symm] at s;rw[s];refine eH λc=>?_;rw[Gg,Gg,Gg,Kq,Kq,Kq,Int.add_mul,M];omega
     ·rename_i Y;rw[if_neg (by omega),xAg] at s;rw[j i S T,s]
 ·obtain ⟨x1,G⟩:=x;obtain ⟨rfl,d,g,j⟩:=t;dsimp only at d g j ⊢;simp only[dX,bA,bT,aV,uo,LI,true_implies] at j ⊢;refine ⟨λi h=>?_,d,λi h=>j i h (by omega)⟩;have:=g _ (bn (show i<G.length by omega));rw[j i (by omega) h] at this;exact this
 ·refine eH λc=>?_;rw[Gg,Kq];simp[dw]
theorem DX{a:cN}(h:a.ah.length<=1000000):hY 5000 a=some a:=by simp only[hY,zbl,Gt h,Option.bind_some]
structure Mj (M:List (Int×cN)) (F:List aA) (a:cN):Prop where
 GZ:1<=a.bC/\a.bC<=1048576
 some':a.ah≠[]
 shares:bM a.ah F.length
 need:aK a.az
 free:cY M a.bC=none
 fits:yW F a
theorem OG{M:List (Int×cN)}{a:cN}{F:List aA}(l:F.length<=300)(g:a.ah.length<=300)(m:∀r∈F,aK r) :
  bY (zbg 5000 M a F) λr=>(r.2.1=0↔Mj M F a)/\(r.2.1=0->r.1=lV M a.bC a/\Bx F a r.2.2):=by
 simp only[zbg,il,if_true,bA,bT];have no:∀{p:Prop}{x:List (Int×cN)×Int×List aA}{q:Prop},¬p->x.2.1≠0->bY (some x) (λr=>(r.2.1=0↔p)/\(r.2.1=0->r.1=lV M a.bC a/\Bx F a r.2.2)):=λ{p x q} n i=>by rw[aV];exact ⟨⟨λh=>absurd h i,λh=>absurd h n⟩,λh=>absurd h i⟩
 rw[aZ];refine ⟨λh=>?_,λh=>?_⟩
 ·simp only[dZ,aQ,lO] at h;refine no (q:=True) (λt=>?_) (by simp);have:=t.GZ;rcases h with h | h
  ·omega
  ·exact t.some' (PM (by omega))
 ·simp only[dZ,aQ,lO,not_or] at h;refine (qP _ _ g).bind λr j=>?_;rw[aZ];refine ⟨λe=>no (q:=True) (λt=>by have:=j.2 t.shares;rw[this] at e;cases e) (by simp),λe=>?_⟩;simp only[eS,lN] at e;have S:=j.1 e;refine (Rt a.az).bind λu f=>?_;rw[aZ];refine ⟨λe=>no (q:=True) (λt=>by have:=f.2 t.need;rw[this] at e;cases e) (by simp),λe=>?_⟩;simp only[eS,lN] at e;have V:=f.1 e;cases k:cY M a.bC with
  |some v=>exact no (q:=True) (λt=>by have:=t.free;rw[k] at this;cases this) (by simp)
  |none=>
   simp only[oel];refine (PX l g S V m).bind λw d=>?_;rw[aZ];refine ⟨λe=>?_,λe=>?_⟩
   ·simp only[EE,ne_eq] at e;exact no (q:=True) (λt=>e (d.1.2 t.fits)) e
   ·simp only[EE,ne_eq,Pt] at e;rw[DX (by omega),aE,aV];refine ⟨⟨λ_=>⟨by omega,λs=>?_,S,V,k,d.1.1 e⟩,λ_=>rfl⟩,λ_=>⟨rfl,d.2 e⟩⟩;rw[s] at h;simp at h
end Go.Plain
end
section
namespace Go.Plain
open Go.Abs
theorem cw{p:Prop}(h:¬p):bY (some false) (λb=>b=true↔p):=by rw[aV];simp[h]
theorem sE{p:Prop}(h:p):bY (some true) (λb=>b=true↔p):=by rw[aV];simp[h]
structure Lp (s:bq) (st:cM):Prop where
 now:0<=st.bz/\st.bz<=1099511627776
 next:1<=st.Next/\st.Next<=s.qy+1
 book:1<=st.kf/\st.kf<=281474976710656
theorem Mp{s:bq}(k:bS s)(st:cM):fB (iy 5000 s st) (Lp s st):=by have f:=k.ids;simp only[iy,ZL,Option.bind_some,fB];rw[wr (x:=s.qy+1) (by omega) (by omega)];simp only[aZ,aV,bp,aQ,bA,zj];exact ⟨λa=>⟨λd=>⟨λe=>⟨a,d,e⟩,λh=>h.book⟩,λd h=>d h.next⟩,λa h=>a h.now⟩
def mT(x:Int):Int:=if x=3 then 1 else if x=4 then 2 else if x=5∨x=6 then 3 else 0
theorem JP(x:Int):0<=mT x/\mT x<=3:=by unfold mT;split <;> (try split) <;> (try split) <;> omega
theorem Rz(x:Int):lZ 5000 x=some (mT x):=by
 simp only[lZ,fx,Option.bind_some,lO,dZ];unfold mT;split
 ·rfl
 ·split
  ·rfl
  ·split <;> rfl
structure zf (s:bq) (st:cM) (j:a_):Prop where
 ok:JM j
 next:j.Id<st.Next
 user:j.gI<s.aU
 queue:j.Queue<s.am.length
 born:j.fT<=st.bz
 start:j.Start<=st.bz
 fin:j.End<=st.bz
 version:j.bO<=s.aL+mT j.State
def ET(l:List a_):Nat->Int
 |0=>0
 |i+1=>((l[i]?).map (·.Id)).getD 0
theorem tn{l:List a_}{i:Nat}(h:i<l.length):ET l (i+1)=l[i].Id:=by simp[ET,h]
structure cU (s:bq) (st:cM):Prop where
 len:(st.aw.length:Int)<=s.aw
 each:∀j∈st.aw,zf s st j
 cA:cH st.aw
theorem Nb{s:bq}{st:cM}(h:(st.aw.length:Int)<=s.aw)(g:∀i (h:i<st.aw.length),zf s st st.aw[i]/\ET st.aw i<st.aw[i].Id):cU s st:=
 ⟨h,λj d=>by obtain ⟨i,a,rfl⟩:=jj d;exact (g i a).1,λi a=>by have:=(g (i+1) a).2;rwa [tn (by omega)] at this⟩
theorem cU.iM{s:bq}{st:cM}(h:cU s st)(i:Nat)(j:i<st.aw.length):zf s st st.aw[i]/\ET st.aw i<st.aw[i].Id:=by
 refine ⟨h.each _ (bn j),?_⟩
 match i,j with
 |0,j=>have:=(h.each _ (bn j)).ok.id;simp only[ET];omega
 |i+1,j=>rw[tn (by omega)];exact h.cA i j
theorem cU.ids{s:bq}{st:cM}(h:cU s st):∀j∈st.aw,0<=j.Id/\j.Id<=1048576:=λj i=>by have:=(h.each j i).ok.id;omega
theorem max3{a b c n:Int}:(if c > (if b > a then b else a) then c else (if b > a then b else a)) > n↔a > n∨b > n∨c > n:=by split <;> split <;> omega
theorem YN{s:bq}(k:bS s){st:cM}(p:lF s st):fB (oP 5000 s st) (cU s st):=by
 have E:=k.xG;have F:=p.cC;simp only[oP,il,Rz,Option.bind_some];rw[fB,aZ];refine ⟨λh=>cw λq=>?_,λt=>?_⟩
 ·have:=q.len;simp only[aQ] at h;omega
 ·simp only[aQ] at t;refine jA st.aw.length (λi x=>x=(ET st.aw i,(i:Int))/\∀j (h:j<st.aw.length),j<i->zf s st st.aw[j]/\ET st.aw j<st.aw[j].Id) (λi x f d l u=>?_) (λx f l=>?_) ⟨rfl,λj h g=>by omega⟩ (by omega)
  ·obtain ⟨rfl,m⟩:=l;simp only[cD d,if_true,bN d,Option.bind_some,bJ (show i<1000000 by omega)];refine (yk _).bind λr e=>?_;rw[aZ];refine ⟨λh=>cw λq=>?_,λh=>?_⟩
   ·have a:=q.iM i d;have v:=e.2 a.1.ok;have G:=a.1.next;have K:=a.2;simp only[v,dZ,aQ,Fj,bA,false_or] at h;omega
   ·simp only[dZ,aQ,not_or,eS,lN] at h;have a:=e.1 h.1.1;rw[aZ];refine ⟨λh=>cw λq=>?_,λw=>?_⟩
    ·have a:=(q.iM i d).1;have:=a.user;have:=a.queue;simp only[dZ,aQ] at h;omega
    ·simp only[dZ,aQ,not_or] at w;rw[aZ];refine ⟨λh=>?_,λy=>?_⟩
     ·refine cw λq=>?_;have a:=(q.iM i d).1;have:=a.born;have:=a.start;have:=a.fin;simp only[aQ,max3] at h;omega
     ·simp only[aQ,max3] at y;have L:=JP st.aw[i].State;rw[wr (x:=s.aL+mT _) (by omega) (by omega),aZ];refine ⟨λh=>cw λq=>?_,λz=>u _ ⟨by rw[tn d],λj A n=>?_⟩⟩
      ·have a:=(q.iM i d).1.version;simp only[aQ] at h;omega
      ·simp only[aQ] at z;rcases Dx (Kv.1 n) with g | g
       ·exact m j A g
       ·subst g;exact ⟨⟨a,by omega,by omega,by omega,by omega,by omega,by omega,by omega⟩,by omega⟩
  ·obtain ⟨rfl,m⟩:=l;simp only[dX,bA,bT];exact sE (Nb (by omega) λi d=>m i d d)
structure Ws (s:bq) (st:cM) (j:a_):Prop where
 fits:fj 5000 s j.Queue j.aJ j.az=some true
 after:∀d∈j.aP,∃i∈st.aw,i.Id=d.bC
def HE(s:bq)(st:cM)(j:a_):Prop:=j.State<5->Ws s st j
theorem Md{s:bq}(k:bS s){st:cM}(u:lF s st)(J:cU s st):fB (iB 5000 s st) (∀j∈st.aw,HE s st j):=by
 have F:=u.cC;simp only[iB,il,fx,Option.bind_some];refine Oz st.aw (HE s st) _ (λh=>h) (λi f p Q v x=>?_) (λf h=>?_) (by omega)
 ·simp only[cD p,if_true,bN p,Option.bind_some,bJ (show i<1000000 by omega)];have e:=J.each _ (bn p);have z:=e.ok.state.st;rw[aZ];refine ⟨λh=>v λhs=>?_,λh=>?_⟩
  ·simp only[dZ,lO] at h;omega
  ·simp only[dZ,lO,not_or] at h;have hs:st.aw[i].State<5:=by omega
   obtain ⟨b,t,G⟩:=Nk u.spec k (q:=st.aw[i].Queue) (m:=st.aw[i].aJ) e.ok.need e.ok.wu;rw[t,aE,aZ];refine ⟨λa=>?_,λa=>?_⟩
   ·rw[aV];refine x λw=>?_;have:=(w hs).fits;rw[t] at this;simp only[aj] at this;subst this;simp at a
   ·simp only[eS,lN] at a;subst a;have K:=e.ok.Bk;refine um st.aw[i].aP (λ_ d=>∃j∈st.aw,j.Id=d.bC) (λm g n y A=>?_) (λg y=>?_) (by omega)
    ·simp only[cD n,if_true,bN n,Option.bind_some,bJ (show m<1000000 by omega)];have L:=e.ok.after _ (bn n);have E:=e.ok.id;refine (OC (by omega) J.cA (id:=st.aw[i].aP[m].bC) (by omega) J.ids).bind λr l=>?_;rw[aZ];refine ⟨λa=>?_,λa=>A ?_⟩
     ·rw[aV];refine x λw=>?_;have:=l.1.2 ((w hs).after _ (bn n));rw[this] at a;simp at a
     ·simp only[eS,lN] at a;exact l.1.1 a
    ·simp only[dX,bA,bT];exact v λ_=>⟨t,BZ y⟩
 ·simp only[dX,bA,bT];exact sE h
structure UI (s:bq) (st:cM):Prop where
 len:(st.uU.length:Int)=s.aU
 use:∀x∈st.uU,0<=x/\x<=1099511627776
 qlen:st.aS.am.length=s.am.length
 nodes:0<=st.aS.aq/\st.aS.aq<=281474976710656
 stamps:∀x∈st.aS.am,0<=x/\x<=281474976710656
theorem IE(l:List Int)(g:l.length<=300):fB (mz 5000 l) (∀x∈l,0<=x/\x<=1099511627776):=by
 simp only[mz];refine Oz l (λx=>0<=x/\x<=1099511627776) _ (λh=>h) (λi f a Q d e=>?_) (λf h=>?_) (by omega)
 ·simp only[cD a,if_true,bN a,Option.bind_some,bJ (show i<1000000 by omega),aZ,aV,dZ,aQ];exact ⟨λh=>e (by omega),λh=>d (by omega)⟩
 ·simp only[dX,bA,bT];exact sE h
theorem UR{s:bq}{st:cM}(j:lF s st):fB (mC 5000 s st) (UI s st):=by
 have p:=j.use;have t:=j.stamps;simp only[mC,il,ZL,Option.bind_some,if_true];rw[fB,aZ];refine ⟨λh=>cw λq=>?_,λh=>?_⟩
 ·simp only[EE,ne_eq] at h;exact h q.len
 ·simp only[EE,ne_eq,Pt] at h;refine (IE st.uU (by omega)).bind λr k=>?_;rw[aZ];refine ⟨λa=>cw λq=>?_,λa=>?_⟩
  ·have:=k.2 q.use;rw[this] at a;simp at a
  ·simp only[eS,lN] at a;rw[aZ];refine ⟨λe=>cw λq=>?_,λe=>?_⟩
   ·simp only[EE,ne_eq] at e;have:=q.qlen;omega
   ·simp only[EE,ne_eq,Pt] at e;rw[aZ];refine ⟨λd=>cw λq=>?_,λd=>?_⟩
    ·simp only[eS,yBv,Vd] at d;have:=q.nodes;omega
    ·simp only[eS,lN,bp,aQ] at d;refine Oz st.aS.am (λx=>0<=x/\x<=281474976710656) _ (λh=>h.stamps) (λi f l Q m n=>?_) (λf g=>?_) (by omega)
     ·simp only[cD l,if_true,bN l,Option.bind_some,bJ (show i<1000000 by omega),aZ,aV,eS,yBv,Vd];exact ⟨λh=>n (by omega),λh=>m (by omega)⟩
     ·simp only[dX,bA,bT];exact sE ⟨h,k.1 a,by omega,d,g⟩
theorem Wt(l:List Int)(n:Int)(k:l.length<=300):fB (zew 5000 l n) ((l.length:Int)=n/\∀x∈l,0<=x/\x<=1099511627776):=by
 simp only[zew,il];refine Oz l (λx=>0<=x/\x<=1099511627776) _ (λh=>h.2) (λi f a Q g d=>?_) (λf h=>?_) (by omega)
 ·simp only[cD a,if_true,bN a,Option.bind_some,bJ (show i<1000000 by omega),aZ,aV,aQ];exact ⟨λh=>d (by omega),λh=>⟨λj=>d (by omega),λj=>g (by omega)⟩⟩
 ·simp only[dX,bA,bT,aV,lO];exact ⟨λe=>⟨e,h⟩,λe=>e.1⟩
theorem GM(x:Int):fB (za9 5000 x) (0<=x/\x<=281474976710656):=by simp only[za9,fB,aV,bp,aQ,ge_iff_le]
end Go.Plain
end
section
namespace Go.Plain
open Go.Abs
structure dh (l:List bF):Prop where
 ne:0<l.length
 inc:∀i (h:i+1<l.length),l[i].At<l[i+1].At
 each:∀s∈l,(0<=s.At/\s.At<=281474976710656)/\aK s.bQ
theorem dh.lt{l:List bF}(h:dh l):∀{i j:Nat}(s:i<j)(x:j<l.length),l[i].At<l[j].At:=by
 intro i j s x;induction j with
 |zero=>omega
 |succ j ih=>
  have z:=h.inc j x;rcases Dx (Kv.1 s) with u | u
  ·have:=ih u (by omega);omega
  ·subst u;exact z
theorem dh.le{l:List bF}(h:dh l){i j:Nat}(s:i<=j)(x:j<l.length):l[i].At<=l[j].At:=by
 rcases Dx s with u | u
 ·have:=h.lt u x;omega
 ·subst u;omega
theorem dh.idx{l:List bF}(h:dh l){i j:Nat}(u:i<l.length)(x:j<l.length)(e:l[i].At=l[j].At):i=j:=by
 rcases Qc i j with s | s | s
 ·have:=h.lt s x;omega
 ·exact s
 ·have:=h.lt s u;omega
theorem dh.inj{l:List bF}(h:dh l){a b:bF}(s:a∈l)(u:b∈l)(e:a.At=b.At):a=b:=by obtain ⟨i,x,rfl⟩:=jj s;obtain ⟨j,z,rfl⟩:=jj u;have:=h.idx x z e;subst this;rfl
def Eb(l:List bF):Int:=l.foldl (λ_ s=>s.At) (-1)
theorem uR{l:List bF}{i:Nat}(h:i<l.length):Eb (l.take (i+1))=l[i].At:=by rw[vU h,Eb,xAn];rfl
def Mz(l:List bF)(i:Nat)(s:bF):Prop:=Eb (l.take i)<s.At/\s.At<=281474976710656/\aK s.bQ
theorem Yk{l:List bF}(e:0<l.length)(h:∀i (a:i<l.length),Mz l i l[i]):dh l:=by
 have d:∀i (h:i+1<l.length),l[i].At<l[i+1].At:=λi a=>by
  have:=(h (i+1) a).1
  rwa [uR (by omega)] at this
 have f:∀i (a:i<l.length),0<=l[i].At:=by
  intro i;induction i with
  |zero=>intro a;have:=(h 0 a).1;simp[Eb] at this;omega
  |succ i ih=>intro a;have:=ih (by omega);have:=d i a;omega
 exact ⟨e,d,BZ (A:=λs=>(0<=s.At/\s.At<=281474976710656)/\aK s.bQ) λi a=>⟨⟨f i a,(h i a).2.1⟩,(h i a).2.2⟩⟩
theorem dh.iM{l:List bF}(h:dh l)(i:Nat)(j:i<l.length):Mz l i l[i]:=by
 have e:=h.each _ (bn j);refine ⟨?_,e.1.2,e.2⟩
 match i,j with
 |0,j=>simp[Eb];omega
 |i+1,j=>rw[uR (by omega)];exact h.inc i j
theorem JW(l:List bF)(t:l.length<=1000):fB (Zd 5000 l) (dh l):=by
 unfold Zd;refine jA l.length (λi x=>x=(Eb (l.take i),(i:Int))/\∀j (p:j<l.length),j<i->Mz l j l[j]) (λi x f a g s=>?_) (λx f g=>?_) ⟨rfl,λj _ h=>by omega⟩ (by omega)
 ·obtain ⟨rfl,k⟩:=g;simp only[il];rw[if_pos (cD a),bN a,aE,aZ];refine ⟨λh=>?_,λh=>?_⟩
  ·rw[if_pos trivial];refine cw λq=>?_;have:=q.iM i a;simp only[dZ,aQ] at h;have:=this.1;have:=(q.iM i a).2.1;omega
  ·refine (Rt _).bind λr d=>?_;rw[aZ];refine ⟨λe=>cw λq=>?_,λe=>?_⟩
   ·have:=d.2 (q.iM i a).2.2;rw[this] at e;simp at e
   ·simp only[eS,lN] at e;simp only[dZ,aQ,not_or] at h;rw[bJ (show i<1000000 by omega)];refine s _ ⟨by rw[uR a],λj p m=>?_⟩;rcases Dx (Kv.1 m) with n | n
    ·exact k j p n
    ·subst n;exact ⟨by omega,by omega,d.1 e⟩
 ·obtain ⟨rfl,k⟩:=g;simp only;rw[if_neg (by simp),aV,aQ];exact ⟨λh=>Yk (by omega) λi a=>k i a a,λq=>by have:=q.ne;omega⟩
theorem eC{l:List bF}(a:l.length<=1000)(h:dh l):Zd 5000 l=some true:=by obtain ⟨r,e,d⟩:=JW l a;rw[e,d.2 h]
structure Idx (l:List bF) (t:Int) (k:Nat):Prop where
 le:k<=l.length
 lo:∀i (h:i<l.length),i<k->l[i].At<=t
 hi:∀i (h:i<l.length),k<=i->t<l[i].At
theorem VV{l:List bF}(s:l.length<=1000)(hs:dh l)(t:Int):bY (Z_ 5000 l t) λr=>∃k,Idx l t k/\r=(k:Int)-1:=by
 unfold Z_;rw[nJ];refine lpM (λx=>∃i j:Nat,x=((i:Int),(j:Int))/\i<=j/\j<=l.length/\(∀k (h:k<l.length),k<i->l[k].At<=t)/\(∀k (h:k<l.length),j<=k->t<l[k].At)) (λx=>(x.2-x.1).toNat) (λx f q e=>?_) ⟨0,l.length,rfl,by omega,by omega,λk h hk=>by omega,λk h hk=>by omega⟩ (by dsimp only;omega);obtain ⟨i,j,rfl,u,g,m,n⟩:=q;rw[aZ];dsimp only;refine ⟨λh=>?_,λh=>?_⟩
 ·simp only[aQ] at h;rw[mid (by omega)];have p:(i+j) / 2<l.length:=by omega
  rw[bN p,aE,aE,aZ];refine ⟨λd=>?_,λd=>?_⟩
  ·simp only[eS,Vd] at d;rw[bJ (by omega)];refine e _ ⟨(i+j) / 2+1,j,rfl,by omega,g,λk hk a=>?_,n⟩ (by dsimp only;omega);have:=hs.le (show k<=(i+j) / 2 by omega) p;omega
  ·simp only[eS,Vd] at d;refine e _ ⟨i,(i+j) / 2,rfl,by omega,by omega,m,λk hk a=>?_⟩ (by dsimp only;omega);have:=hs.le a hk;omega
 ·simp only[aQ] at h;have:i=j:=by omega
  subst this;simp only[aV];exact ⟨i,⟨g,m,n⟩,by rw[wr (by omega) (by omega)]⟩
theorem Idx.pos{l:List bF}{t:Int}{k:Nat}(h:Idx l t k)(hs:dh l)(i:(l[0]'hs.ne).At<=t):0<k:=by
 rcases yCg k with e | e
 ·subst e;have:=h.hi 0 hs.ne (cn _);omega
 ·exact e
def uN(l:List bF)(t:Int)(r:aA):Prop:=∃s∈l,s.At<=t/\(∀a∈l,a.At<=t->a.At<=s.At)/\s.bQ=r
theorem uN.t_{l:List bF}(hs:dh l){t:Int}{r x:aA}(h:uN l t r)(E:uN l t x):r=x:=by obtain ⟨s,z,F,G,rfl⟩:=h;obtain ⟨A,i,j,u,rfl⟩:=E;have:s=A:=hs.inj z i (by have:=G A i j;have:=u s z F;omega);rw[this]
theorem uN.ok{l:List bF}(hs:dh l){t:Int}{r:aA}(h:uN l t r):aK r:=by obtain ⟨s,i,_,_,rfl⟩:=h;exact (hs.each s i).2
theorem Idx.vat{l:List bF}{t:Int}{k:Nat}(h:Idx l t (k+1))(hs:dh l)(hk:k<l.length):uN l t l[k].bQ:=by
 refine ⟨l[k],bn hk,h.lo k hk (by omega),λs NY u=>?_,rfl⟩;obtain ⟨i,j,rfl⟩:=jj NY;by_cases q:i<=k
 ·exact hs.le q hk
 ·have:=h.hi i j (by omega);omega
theorem TF{l:List bF}(a:l.length<=1000)(hs:dh l){t:Int}(d:(l[0]'hs.ne).At<=t):bY (sX 5000 l t) (uN l t):=by unfold sX;simp only[il];rw[eC a hs,aE,if_neg (by simp)];rw[show (0:Int)=((0:Nat):Int) from rfl,bN hs.ne,aE,if_neg (by simp;omega)];refine (VV a hs t).bind λr e=>?_;obtain ⟨k,hk,rfl⟩:=e;have g:=hk.pos hs d;have f:=hk.le;rw[show (k:Int)-1=((k-1:Nat):Int) by omega,bN (show k-1<l.length by omega),aE,aV];exact Idx.vat (k:=k-1) (by rw[show k-1+1=k by omega];exact hk) hs (by omega)
end Go.Plain
end
section
namespace Go.Plain
open Go.Abs
structure CL (L:List aA) (r:aA):Prop where
 le:∀v∈L,∀c,cmp c r<=cmp c v
 iM:∀c,∃v∈L,cmp c v=cmp c r
def ri(a b:aA):aA:={ br:=if b.br<a.br then b.br else a.br,Mem:=if b.Mem<a.Mem then b.Mem else a.Mem,bx:=if b.bx<a.bx then b.bx else a.bx,bD:=if b.bD<a.bD then b.bD else a.bD }
theorem DD(c:Nat)(a b:aA):cmp c (ri a b)=if cmp c b<cmp c a then cmp c b else cmp c a:=by match c with | 0=>rfl | 1=>rfl | 2=>rfl | _+3=>rfl
theorem VN(a b:aA):zcA 5000 a b=some (ri a b):=by
 have d:∀x y:Int,zbX 5000 x y=some (if y<x then y else x):=λx y=>by
  unfold zbX;by_cases h:x<y
  ·rw[if_pos (by simpa using h),if_neg (by omega)]
  ·rw[if_neg (by simpa using h)];by_cases e:y<x
   ·rw[if_pos e]
   ·rw[if_neg e,show y=x by omega]
 simp only[zcA,d,Option.bind_some,ri]
theorem CL.one(v:aA):CL [v] v:=⟨λw i c=>by simp at i;subst i;exact Aa _,λc=>⟨v,by simp,rfl⟩⟩
theorem CL.add{L:List aA}{r:aA}(h:CL L r)(v:aA):CL (L++[v]) (ri r v):={
 le:=λw hw c=>by
  rw[DD];rcases mw.1 hw with hw | hw
  ·have:=h.le w hw c;split <;> omega
  ·simp at hw;subst hw;split <;> omega
 iM:=λc=>by
  rw[DD];split
  ·exact ⟨v,by simp,rfl⟩
  ·obtain ⟨w,hw,e⟩:=h.iM c;exact ⟨w,by simp[hw],e⟩ }
structure LU (V:Int->aA->Prop) (a b:Int) (r:aA):Prop where
 le:∀t v,a<=t->t<b->V t v->∀c,cmp c r<=cmp c v
 iM:∀c,∃t v,a<=t/\t<b/\V t v/\cmp c v=cmp c r
theorem LU.t_{V:Int->aA->Prop}{a b:Int}{r u:aA}(h:LU V a b r)(x:LU V a b u):r=u:=eH λc=>by obtain ⟨t,v,z,A,E,e⟩:=h.iM c;obtain ⟨F,G,i,j,s,K⟩:=x.iM c;have:=h.le F G i j s c;have:=x.le t v z A E c;omega
theorem LU.iff{V W:Int->aA->Prop}{a b:Int}{r:aA}(h:LU V a b r)(u:∀t v,a<=t->(V t v↔W t v)):LU W a b r:=
 ⟨λt v i j s=>h.le t v i j ((u t v i).2 s),λc=>by obtain ⟨t,v,i,j,s,e⟩:=h.iM c;exact ⟨t,v,i,j,(u t v i).1 s,e⟩⟩
theorem iJ{α:Type}{l:List α}{i:Nat}(h:i<=l.length):slice? l (i:Int) (l.length:Int)=some (l.drop i):=by unfold slice?;rw[if_pos ⟨by omega,by omega,by omega⟩];simp
theorem Io{l:List bF}(F:l.length<=1000)(hs:dh l){a b:Int}(G:(l[0]'hs.ne).At<=a)(u:a<b):bY (mG 5000 l a b) (LU (uN l) a b):=by
 unfold mG;simp only[il];rw[eC F hs,aE,if_neg (by simp)];rw[show (0:Int)=((0:Nat):Int) from rfl,bN hs.ne,aE,if_neg (by simp;omega)];refine (VV F hs a).bind λr y=>?_;obtain ⟨k,hk,rfl⟩:=y;have hp:=hk.pos hs G;have K:=hk.le;obtain ⟨m,rfl⟩:∃m,k=m+1:=⟨k-1,by omega⟩;rw[show ((m+1:Nat):Int)-1=(m:Int) by omega,bN (show m<l.length by omega),aE,bJ (by omega),iJ (by omega),aE];have fin:∀(n:Nat)(v:aA),n<=(l.drop (m+1)).length->(∀(j:Nat)(h:j<(l.drop (m+1)).length),j<n->(l.drop (m+1))[j].At<b)->(∀(j:Nat)(h:j<(l.drop (m+1)).length),n<=j->b<=(l.drop (m+1))[j].At) ->
   CL (l[m].bQ::((l.drop (m+1)).take n).map (·.bQ)) v->LU (uN l) a b v:=λn v hn L M g=>by
  have len:(l.drop (m+1)).length=l.length-(m+1):=VB ..;refine ⟨λt w ht N hw c=>?_,λc=>?_⟩
  ·obtain ⟨s,O,q2,S,rfl⟩:=hw;obtain ⟨i,q,rfl⟩:=jj O;have hm:=S l[m] (bn _) (by have:=hk.lo m (by omega) (by omega);omega);refine g.le _ ?_ c;by_cases e:i=m
   ·subst e;exact iz ..
   ·have T:m<i:=by
     rcases Qc i m with h | h | h
     ·have:=hs.lt h (by omega);omega
     ·exact absurd h e
     ·exact h
    have U:i-(m+1)<n:=by
     rcases qG (i-(m+1)) n with h | h
     ·exact h
     ·have:=M (i-(m+1)) (by omega) h;rw[ZN] at this;have W:m+1+(i-(m+1))=i:=by omega
      simp only[W] at this;omega
    refine h_ _ (dY.2 ⟨l[i],?_,rfl⟩);refine Pg.2 ⟨i-(m+1),by rw[km];omega,?_⟩;rw[He,ZN];congr 1;omega
  ·obtain ⟨w,hw,e⟩:=g.iM c;rcases eU.1 hw with rfl | hw
   ·exact ⟨a,_,Aa _,u,hk.vat hs (by omega),e⟩
   ·obtain ⟨s,NY,rfl⟩:=dY.1 hw;obtain ⟨j,d,rfl⟩:=Pg.1 NY;rw[km] at d;rw[He] at e NY;have p:=L j (by omega) (by omega);rw[ZN] at e p;have ha:=hk.hi (m+1+j) (by omega) (by omega);refine ⟨l[m+1+j].At,_,by omega,p,⟨l[m+1+j],bn _,Aa _,λs' _ h=>h,rfl⟩,e⟩
 refine jA (l.drop (m+1)).length (λi x=>∃v:aA,x=((i:Int),v.br,v.Mem,v.bx,v.bD)/\CL (l[m].bQ::((l.drop (m+1)).take i).map (·.bQ)) v/\∀j (h:j<(l.drop (m+1)).length),j<i->(l.drop (m+1))[j].At<b) (λi x f q z y=>?_) (λx f z=>?_)
  ⟨l[m].bQ,rfl,CL.one _,λj _ h=>by omega⟩ (by rw[VB];omega)
 ·obtain ⟨v,rfl,g,p⟩:=z;have Y:m+1+i<l.length:=by rw[VB] at q;omega
  dsimp only;rw[if_pos (cD q),bN q,aE,aZ];refine ⟨λh=>?_,λh=>?_⟩
  ·simp only[aQ] at h;rw[aV];refine fin i v (yBR q) p (λj d Z=>?_) g;rw[ZN] at h ⊢;have:=hs.le (show m+1+i<=m+1+j by omega) (by rw[VB] at d;omega);omega
  ·simp only[aQ] at h;rw[show ∀b,yd 5000 ({ br:=v.br,Mem:=v.Mem,bx:=v.bx,bD:=v.bD }:aA) b=some (ri v b) from λb=>rfl,aE,bJ (show i<1000000 by omega)];refine y _ ⟨ri v (l.drop (m+1))[i].bQ,rfl,?_,λj d A=>?_⟩
   ·rw[vU q,Ic,<-List.cons_append];exact g.add _
   ·rcases Dx (Kv.1 A) with E | E
    ·exact p j d E
    ·subst E;omega
 ·obtain ⟨v,rfl,g,p⟩:=z;dsimp only;rw[if_neg (by simp),aV];exact fin _ v (cn _) (λj d h=>p j d h) (λj d h=>by omega) g
structure Kept (l r:List bF):Prop where
 ok:dh r
 len:r.length<=l.length
 first:∀(h:0<l.length)(h':0<r.length),r[0].At=l[0].At
 sub:∀s∈r,s∈l
 val:∀t v,uN l t v->uN r t v
theorem QZ{l:List bF}{i:Nat}(a:i<l.length){s:bF}:s∈l.take (i+1)↔s∈l.take i∨s=l[i]:=by rw[vU a,mw,nL]
theorem uN.take{l:List bF}{i:Nat}(z:i<l.length)(hs:dh l){t:Int}{v:aA}(h:uN (l.take (i+1)) t v):(l[i].At<=t/\v=l[i].bQ)∨(t<l[i].At/\uN (l.take i) t v):=by
 obtain ⟨s,u,A,x,rfl⟩:=h;rw[vU z] at u x;by_cases q:l[i].At<=t
 ·left;refine ⟨q,?_⟩;have E:=x l[i] (Wy _ (nL.2 rfl)) q;rcases mw.1 u with h | h
  ·obtain ⟨j,F,rfl⟩:=Pg.1 h;rw[km] at F;rw[He] at E ⊢;have:=hs.lt (show j<i by omega) z;omega
  ·simp at h;rw[h]
 ·right;refine ⟨by omega,s,?_,A,λG K=>x G (Ri _ K),rfl⟩;rcases mw.1 u with h | h
  ·exact h
  ·simp at h;subst h;omega
theorem Sk{l:List bF}(hs:dh l){s:bF}(h:∀x∈l,x.At<s.At)(d:(0<=s.At/\s.At<=281474976710656)/\aK s.bQ):dh (l++[s]):=by
 have:=hs.ne;refine ⟨by simp,λi f=>?_,λx a=>?_⟩
 ·rw[Jw,xAk] at f;rw[yBw (show i<l.length by omega)];by_cases e:i+1<l.length
  ·rw[yBw e];exact hs.inc i e
  ·rw[xAq (by omega)];simp only[List.getElem_singleton];exact h _ (bn _)
 ·rcases mw.1 a with a | a
  ·exact hs.each x a
  ·simp at a;subst a;exact d
theorem HC{l:List bF}(M:l.length<=1000)(hs:dh l):bY (mq 5000 l) (Kept l):=by
 have p:=hs.ne;unfold mq;rw[eC M hs,aE,if_neg (by simp)];rw[show (0:Int)=((0:Nat):Int) from rfl,bN p,aE];rw[show slice? l 1 (l.length:Int)=some (l.drop 1) from iJ p,aE];have N:(l.drop 1).length=l.length-1:=VB ..;refine jA (l.drop 1).length (λi x=>x.1=(i:Int)/\Kept (l.take (i+1)) x.2/\∃(h:0<x.2.length)(A:i<l.length),x.2[x.2.length-1].bQ=l[i].bQ) (λi x f A u F=>?_) (λx f u=>?_) ?_ (by omega)
 ·obtain ⟨y,a⟩:=x;obtain ⟨rfl,hk,g,E,d⟩:=u;dsimp only at hk g d ⊢;have k:i+1<l.length:=by omega
  have w:=hk.len;rw[km] at w;have O:(l.drop 1)[i]=l[i+1]:=by rw[ZN];congr 1;omega
  simp only[il];rw[if_pos (cD A),bN A,aE,O,wr (x:=(a.length:Int)-1) (by omega) (by omega),show (a.length:Int)-1=((a.length-1:Nat):Int) by omega,bN (show a.length-1<a.length by omega),aE,bJ (show i<1000000 by omega),d];have m:∀x∈a,x.At<l[i+1].At:=λx u=>by have:=hk.sub x u;obtain ⟨j,G,rfl⟩:=Pg.1 this;rw[km] at G;rw[He];exact hs.lt (by omega) k
  rw[aZ];refine ⟨λh=>?_,λh=>?_⟩
  ·rw[Bw (by simp;omega),aE];have K:Kept (l.take (i+1+1)) (a++[l[i+1]]):=by
    refine ⟨Sk hk.ok m (hs.each _ (bn _)),by rw[km,Jw,xAk];omega,λh n=>?_,λs NY=>?_,λt v r=>?_⟩
    ·have:=hk.first (by rw[km];omega) g;rw[yBw g];rw[He] at this ⊢;exact this
    ·rcases mw.1 NY with q | q
     ·exact (QZ k).2 (.inl (hk.sub s q))
     ·exact (QZ k).2 (.inr (nL.1 q))
    ·rcases r.take k hs with ⟨q,rfl⟩ | ⟨q,r⟩
     ·exact ⟨l[i+1],Wy _ (nL.2 rfl),q,λz n _=>by
       rcases mw.1 n with n | n
       ·have:=m z n;omega
       ·rw[nL.1 n];omega,rfl⟩
     ·obtain ⟨s,S,T,U,W⟩:=hk.val t v r;exact ⟨s,Ri _ S,T,λz n L=>by
       rcases mw.1 n with n | n
       ·exact U z n L
       ·rw[nL.1 n] at L;omega,W⟩
   exact F _ ⟨rfl,K,by simp,k,by simp⟩
  ·have e:l[i+1].bQ=l[i].bQ:=by
    simp only[eS,lN] at h;simp only[bF.beq,bp,lO,eI] at h;exact h.2.1
   have K:Kept (l.take (i+1+1)) a:=by
    refine ⟨hk.ok,by rw[km];omega,λh n=>?_,λs NY=>(QZ k).2 (.inl (hk.sub s NY)),λt v r=>?_⟩
    ·have:=hk.first (by rw[km];omega) g;rw[He] at this ⊢;exact this
    ·rcases r.take k hs with ⟨q,rfl⟩ | ⟨q,r⟩
     ·refine ⟨a[a.length-1],bn _,by have:=m _ (bn (show a.length-1<a.length by omega));omega,λz n _=>?_,by rw[d,e]⟩;obtain ⟨j,G,rfl⟩:=jj n;exact hk.ok.le (by omega) (by omega)
     ·exact hk.val t v r
   exact F _ ⟨rfl,K,g,k,by dsimp only;rw[d,e]⟩
 ·obtain ⟨y,a⟩:=x;obtain ⟨rfl,hk,g,E,d⟩:=u;dsimp only at hk ⊢;rw[if_neg (by simp),aV];rw[N,show l.length-1+1=l.length by omega,uo] at hk;exact hk
 ·have e:l.take 1=[l[0]]:=by rw[vU p];simp
  refine ⟨rfl,?_,by simp,p,rfl⟩;rw[GA,e];refine ⟨⟨by simp,λi h=>by simp at h,λs h=>by simp at h;subst h;exact hs.each _ (bn _)⟩,by simp,λ_ _=>rfl,λs h=>h,λt v h=>h⟩
end Go.Plain
end
