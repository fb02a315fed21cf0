/- TyP1, TyP2, TyP3, TyP4, TyP5, TyR1, TyR2, TyR3 -/
import Derived.Test.YtmaocdlpgdadnaaGreatTyPure
import Derived.KernelRfl
import Derived.Laws.BitsLemmas
set_option linter.all false
section
namespace Go.Plain
open Go.Abs
instance glT:Gl:={ ok:=λ_ _=>True,mono:=λ_ _=>trivial }
theorem wr{x:Int}(a:-9223372036854775808<=x)(d:x<9223372036854775808):IntKind.i64.wrap x=x:=by rw[IntKind.wrap_i64];omega
theorem bF{i:Nat}(h:i<1000000):IntKind.i64.wrap ((i:Int)+1)=((i+1:Nat):Int):=by rw[wr (by omega) (by omega)];rfl
theorem ZV{i:Nat}(h:i+1<1000000):IntKind.i64.wrap (((i+1:Nat):Int)-1)=(i:Int):=by rw[wr (by omega) (by omega)];omega
theorem bY{α:Type}{l:List α}{i:Nat}(h:i<l.length):au l (i:Int)=some l[i]:=by unfold au;rw[if_pos ⟨by omega,by omega⟩];simp[h]
theorem cS{α:Type}{l:List α}{x:Int}(d:0<=x)(h:x<l.length):∃a:x.toNat<l.length,au l x=some (l[x.toNat]'a):=by
 have a:x.toNat<l.length:=by omega
 refine ⟨a,?_⟩;unfold au;rw[if_pos ⟨d,h⟩,cE a]
theorem cG{i n:Nat}(h:i<n):decide ((i:Int)<(n:Int))=true:=by simp;omega
theorem c_{n:Nat}:decide ((n:Int)<(n:Int))=false:=by simp
theorem mu{α:Type}{l m:List α}(h:l.length+m.length<=1000000):cL l m=some (l++m):=by unfold cL;rw[if_pos h]
theorem FZ{α:Type}{m:List α}(h:m.length<=1000000):cL [] m=some m:=by rw[mu (by simpa using h)];rfl
theorem kh{X R:Type}(r:X->Option R)(b:(X->Option R)->Option R):jn r b=b r:=rfl
def bp{β:Type}(o:Option β)(Q:β->Prop):Prop:=∃r,o=some r/\Q r
abbrev dL(o:Option Bool)(P:Prop):Prop:=bp o λb=>b=true↔P
section
variable{α β γ σ:Type}{o:Option α}{P Q:α->Prop}
theorem bp.mono(h:bp o P)(i:∀r,P r->Q r):bp o Q:=by obtain ⟨r,j,s⟩:=h;exact ⟨r,j,i r s⟩
theorem bp.bind{f:α->Option β}{R:β->Prop}(h:bp o P)(i:∀r,P r->bp (f r) R):bp (o.bind f) R:=by obtain ⟨r,rfl,j⟩:=h;exact i r j
theorem aP{r:α}:bp (some r) Q↔Q r:=by simp[bp]
theorem pF{f:α->Option β}{R:β->Prop}:bp (o.bind f) R↔bp o λr=>bp (f r) R:=by cases o <;> simp[bp]
theorem aR{c:Prop}[Decidable c]{a b:Option α}:bp (if c then a else b) Q↔(c->bp a Q)/\(¬c->bp b Q):=by by_cases h:c <;> simp[h]
theorem bp.eq{r:α}(h:bp o λx=>x=r):o=some r:=by obtain ⟨_,h,rfl⟩:=h;exact h
end
section
variable{X R α:Type}{b:(X->Option R)->X->Option R}{Q:R->Prop}
theorem uP(n:Nat)(Inv:Nat->X->Prop)(hs:∀i x f,i<n->Inv i x->(∀d,Inv (i+1) d->bp (f d) Q)->bp (b f x) Q)
  (l:∀x f,Inv n x->bp (b f x) Q) {e:X} (m:Inv 0 e) {N:Nat} (q:n<N):bp (bg b N e) Q:=by
 have:∀k i x,i<=n->n<i+k->Inv i x->bp (bg b k x) Q:=by
  intro k;induction k with
  |zero=>intro i x h p;omega
  |succ k ih=>
   intro i x h p j;rcases FU h with a | rfl
   ·exact hs i x _ a j λd g=>ih (i+1) d a (by omega) g
   ·exact l x _ j
 exact this N 0 e (JG _) (by omega) m
end
section
variable{R α:Type}{b:(Int->Option R)->Int->Option R}{Q:R->Prop}
theorem tH (l:List α) (A:Nat→α→Prop)
  (hs:∀i (f:Int→Option R) (h:i<l.length),(∀j (a:j<l.length),j<i→A j l[j])→(A i l[i]→bp (f ((i+1:Nat):Int)) Q)→bp (b f (i:Int)) Q)
  (m:∀f,(∀j (a:j<l.length),A j l[j])→bp (b f (l.length:Int)) Q) {N:Nat} (n:l.length<N):bp (bg b N 0) Q:=
 uP l.length (fun i x=>x=(i:Int)∧∀j (a:j<l.length),j<i→A j l[j])
  (fun i x f p ⟨e,d⟩ q=>by
   subst e
   exact hs i f p d fun h=>q _ ⟨rfl,fun j a g=>by
    rcases FU (QN.1 g) with k | k
    ·exact d j a k
    ·subst k; exact h⟩)
  (fun x f ⟨e,d⟩=>by subst e; exact m f fun j a=>d j a a) ⟨rfl,fun j a h=>absurd h (by omega)⟩ n
end
theorem zY{α:Type}{l:List α}{A:α->Prop}(h:∀j (f:j<l.length),A l[j]):∀a∈l,A a:=λa d=>by obtain ⟨i,e,rfl⟩:=tE d;exact h i e
theorem FX{α:Type}{b:(Int->Option Bool)->Int->Option Bool}(l:List α)(A:α->Prop)(P:Prop)(d:P->∀a∈l,A a)
  (hs:∀(i:Nat)(f:Int->Option Bool)(h:i<l.length)(Q:Bool->Prop),(A l[i]->bp (f ((i+1:Nat):Int)) Q)->(¬A l[i]->Q false)->bp (b f (i:Int)) Q)
  (e:∀f,(∀a∈l,A a)->dL (b f (l.length:Int)) P) {N:Nat} (g:l.length<N):dL (bg b N 0) P:=
 tH l (λ_ a => A a) (λi f h _ j => hs i f h _ j λk => by
   simp only[aV,wZ];exact λp=>k (d p _ (bZ h)))
  (λf h=>e f (zY h)) g
structure iC (s:aX):Prop where
 nodes:s.aw.length<=40
 parts:s.aL.length<=20
 lq:s.ah.length<=20
 part:∀p∈s.aL,p.length<=40
 queue:∀q∈s.ah,q.aT.length<=40
theorem Vp(s:aX):bp (zdA 5000 s) λr=>r=true->iC s:=by
 simp only[zdA,aR,aP];refine ⟨by simp,λh=>?_⟩;simp only[dQ,aM,not_or,Int.not_lt] at h;obtain ⟨⟨g,j⟩,k⟩:=h;refine tH s.aL (λ_ q=>q.length<=40) (λi f h _ a=>?_) (λf d=>?_) (by omega)
 ·simp only[cG h,if_true,bY h,Option.bind_some,bF (show i<1000000 by omega),aR,aP,aM];exact ⟨by simp,λh=>a (by omega)⟩
 ·simp only[c_,aV,bm];refine tH s.ah (λ_ q=>q.aT.length<=40) (λi f h _ a=>?_) (λf e=>?_) (by omega)
  ·simp only[cG h,if_true,bY h,Option.bind_some,bF (show i<1000000 by omega),aR,aP,aM];exact ⟨by simp,λh=>a (by omega)⟩
  ·simp only[c_,aV,bm,aP];exact λ_=>⟨by omega,by omega,by omega,zY d,zY e⟩
theorem UV(l:List aD):bp (zdv 5000 l) λr=>r=true->l.length<=30/\∀j∈l,j.aA.length<=10:=by
 simp only[zdv,aR,aP];refine ⟨by simp,λh=>?_⟩;simp only[aM] at h;refine tH l (λ_ q=>q.aA.length<=10) (λi f h _ a=>?_) (λf d=>?_) (by omega)
 ·simp only[cG h,if_true,bY h,Option.bind_some,bF (show i<1000000 by omega),aR,aP,aM];exact ⟨by simp,λh=>a (by omega)⟩
 ·simp only[c_,aV,bm,aP];exact λ_=>⟨by omega,zY d⟩
structure kk (s:aX) (st:cg):Prop where
 spec:iC s
 cd:st.an.length<=300
 after:∀j∈st.an,j.aA.length<=10
 cu:st.aj.length<=300
 ng:st.bI.length<=20
 use:st.iW.length<=20
 stamps:st.aG.ah.length<=20
 shares:∀a∈st.aj,a.aq.length<=40
theorem kk.sh{s:aX}{st:cg}(h:kk s st):∀a∈st.aj,a.aq.length<=300:=λa i=>jI (h.shares a i) (by decide)
theorem Zj(s:aX)(st:cg):bp (Yk 5000 s st) λr=>r=true->kk s st:=by
 simp only[Yk,kh];refine (Vp s).bind λr a=>?_;simp only[if_true,aP,aR];refine ⟨by simp,λh=>?_⟩;refine (UV st.an).bind λk d=>?_;simp only[fJ,kO] at h;have g:=a h;simp only[aR,aP];refine ⟨by simp,λh=>?_⟩;simp only[dQ,aM,not_or,Int.not_lt,fJ,kO] at h;obtain ⟨⟨⟨⟨h,l⟩,m⟩,n⟩,p⟩:=h;have e:=d h;refine tH st.aj (λ_ q=>q.aq.length<=40) (λi f h _ a=>?_) (λf j=>?_) (by omega)
 ·simp only[cG h,if_true,bY h,Option.bind_some,bF (show i<1000000 by omega),aR,aP,aM];exact ⟨by simp,λh=>a (by omega)⟩
 ·simp only[c_,aV,bm,aP];exact λ_=>⟨g,jI e.1 (by decide),e.2,by omega,by omega,by omega,by omega,zY j⟩
def Jq(lo a x:Int):Bool:=decide (lo<=x)&&decide (x<=a)
structure bo (r:aN):Prop where
 B_:0<=r.cj/\r.cj<=1048576
 mem:0<=r.Mem/\r.Mem<=1048576
 Ew:0<=r.cA/\r.cA<=1048576
 F_:0<=r.cC/\r.cC<=1048576
theorem uO(r:aN):dL (Qz 5000 r) (bo r):=by simp only[Qz,Yv,aP,Option.bind_some,aR,aU,aM,aV,wZ,dL];refine ⟨λa=>⟨λd=>⟨λe=>⟨λf=>⟨a,d,e,f⟩,λh=>h.F_⟩,λe h=>e h.Ew⟩,λd h=>d h.mem⟩,λa h=>a h.B_⟩
theorem at4x0{a b c d:Int}:au [a,b,c,d] 0=some a:=rfl
theorem Zc{a b c d:Int}:au [a,b,c,d] 1=some b:=rfl
theorem Zx{a b c d:Int}:au [a,b,c,d] 2=some c:=rfl
theorem at4x3{a b c d:Int}:au [a,b,c,d] 3=some d:=rfl
theorem lpN(l:List Int)(lo d n:Int)(e:(l.length:Int)=n){E:Option Bool}{Q:Bool->Prop}(g:¬(∀a∈l,lo<=a/\a<=d)->Q false)(j:(∀a∈l,lo<=a/\a<=d)->bp E Q)(k:l.length<5000) :
  bp (bg (λ(f:Int->Option Bool) (x:Int)=>if (decide (x<n))=true then (au l x).bind λy=>if ((decide (y<lo)) || (decide (y > d)))=true then some false else f (IntKind.i64.wrap (x+1)) else E) 5000 0) Q:=by
 subst e;refine tH l (λ_ a=>lo<=a/\a<=d) (λi f h _ m=>?_) (λf h=>?_) k
 ·simp only[cG h,if_true,bY h,Option.bind_some,bF (show i<1000000 by omega),aR,aP,dQ,aM];exact ⟨λq=>g λp=>by have:=p _ (bZ h);omega,λh=>m (by omega)⟩
 ·simp only[c_,aV,bm];exact j (zY h)
theorem uq{a b c d lo e:Int}:(∀x∈[a,b,c,d],lo<=x/\x<=e)↔(lo<=a/\a<=e)/\(lo<=b/\b<=e)/\(lo<=c/\c<=e)/\(lo<=d/\d<=e):=by simp
theorem Au{a b c lo d:Int}:(∀x∈[a,b,c],lo<=x/\x<=d)↔(lo<=a/\a<=d)/\(lo<=b/\b<=d)/\(lo<=c/\c<=d):=by simp
theorem dj(r:aN):dL (Md 5000 r) (bo r):=by
 simp only[Md,dZ,Option.bind_some];refine lpN [r.cj,r.Mem,r.cA,r.cC] 0 1048576 4 rfl (λh=>?_) (λh=>?_) (by simp)
 ·simp only[aV,wZ];exact λv=>h (uq.2 ⟨v.B_,v.mem,v.Ew,v.F_⟩)
 ·rw[aP];obtain ⟨a,d,e,f⟩:=uq.1 h;exact ⟨λ_=>⟨a,d,e,f⟩,λ_=>rfl⟩
def cw:aN:={ cj:=0,Mem:=0,cA:=0,cC:=0 }
theorem gz{a b:aN}:aN.beq a b=true↔a=b:=by obtain ⟨d,e,f,g⟩:=a;obtain ⟨h,i,j,k⟩:=b;simp[aN.beq]
end Go.Plain
end
section
namespace Go.Plain
open Go.Abs
theorem yn{x:ByteArray}(h:x.toList.isEmpty=false):x.toList≠[]:=by intro e;rw[e] at h;cases h
def GO(l:List Int):Nat->Int
 |0=>-1
 |i+1=>l[i]?.getD 0
theorem uv{l:List Int}{i:Nat}(h:i<l.length):GO l (i+1)=l[i]:=by simp[GO,h]
def lO(l:List Int)(n:Int):Prop:=∀i (h:i<l.length),GO l i<l[i]/\l[i]<n
theorem lO.nn{l:List Int}{n:Int}(h:∀i (j:i<l.length),GO l i<l[i]):∀i (j:i<l.length),0<=l[i]:=by
 intro i;induction i with
 |zero=>intro j;have:=h 0 j;simp only[GO] at this;omega
 |succ i ih=>intro j;have:=h (i+1) j;rw[uv (by omega)] at this;have:=ih (by omega);omega
theorem lO.mem{l:List Int}{n:Int}(h:lO l n):∀x∈l,0<=x/\x<n:=λx s=>by obtain ⟨i,j,rfl⟩:=tE s;exact ⟨lO.nn (n:=n) (λi j=>(h i j).1) i j,(h i j).2⟩
theorem ascending(l:List Int)(n:Int)(r:l.length<99):dL (zdm 5000 l n) (lO l n):=by
 simp only[zdm];refine uP l.length (λi x=>x=(GO l i,(i:Int))/\∀j (d:j<l.length),j<i->GO l j<l[j]/\l[j]<n) (λi x f a e p=>?_) (λx f e=>?_) ⟨rfl,λj d h=>by omega⟩ (by omega)
 ·obtain ⟨rfl,g⟩:=e;simp only[cG a,if_true,bY a,Option.bind_some,bF (show i<1000000 by omega),aR,aP,dQ,aM];refine ⟨λh=>?_,λh=>p _ ⟨by rw[uv a],λj d k=>?_⟩⟩
  ·simp only[aV,wZ];intro q;have:=q i a;omega
  ·rcases FU (QN.1 k) with m | m
   ·exact g j d m
   ·subst m;omega
 ·obtain ⟨rfl,g⟩:=e;simp only[c_,aV,bm,aP,Hp];exact λi a=>g i a a
theorem x_(l:List Int)(n:Int)(r:l.length<99):dL (Zs 5000 l n) (lO l n):=by
 simp only[Zs,kh];refine tH l (λi a=>GO l i<a/\a<n) (λi f h s d=>?_) (λf h=>?_) (by omega)
 ·have hd:decide ((i:Int) > 0)=decide (0<i):=by simp
  simp only[cG h,if_true,bY h,Option.bind_some,bF (show i<1000000 by omega),aR,aP,aM,hd,aV,bm];have bad:¬(GO l i<l[i]/\l[i]<n)->(False↔lO l n):=λg=>by simp only[wZ];exact λe=>g (e i h)
  refine ⟨λj=>?_,λj=>⟨λk=>bad (by omega),λk=>⟨λp=>?_,λp=>?_⟩⟩⟩
  ·simp only[wZ];intro e;have:=(e.mem _ (bZ h)).1;omega
  ·obtain ⟨m,rfl⟩:∃m,i=m+1:=⟨i-1,by omega⟩;rw[ZV (show m+1<1000000 by omega),bY (show m<l.length by omega)];rw[uv (by omega)] at bad d;simp only[Option.bind_some,aR,aM,aP,aV];exact ⟨λq=>bad (by omega),λq=>d ⟨by omega,by omega⟩⟩
  ·have:i=0:=by omega
   subst this;exact d ⟨by simp only[GO];omega,by omega⟩
 ·simp only[c_,aV,bm,aP,Hp];exact h
structure xh (s:aX):Prop where
 lo:1<=s.aw.length
 hi:s.aw.length<=16
 ok:∀r∈s.aw,bo r
theorem HN(s:aX):dL (dG 5000 s) (xh s):=by
 simp only[dG,aR,aP];refine ⟨λh=>?_,λh=>?_⟩
 ·simp only[dQ,aM] at h;simp only[aV,wZ];intro k;have:=k.lo;have:=k.hi;omega
 ·simp only[dQ,aM,not_or] at h;refine FX s.aw bo _ (λk=>k.ok) (λi f a Q g j=>?_) (λf l=>?_) (by omega)
  ·simp only[cG a,if_true,bY a,Option.bind_some,bF (show i<1000000 by omega)];refine (dj _).bind λr d=>?_;simp only[aR,aP,fJ,kO];exact ⟨λe=>j (by rw[<-d,e];simp),λe=>g (d.1 e)⟩
  ·simp only[c_,aV,bm,aP,Hp];exact ⟨by omega,by omega,l⟩
theorem LH(s:aX)(hs:iC s):dL (Zm 5000 s) (xh s):=by
 have:=hs.nodes;simp only[Zm];refine FX s.aw bo _ (λk=>k.ok) (λi f a Q g j=>?_) (λf l=>?_) (by omega)
 ·simp only[cG a,if_true,bY a,Option.bind_some,bF (show i<1000000 by omega)];refine (uO _).bind λr d=>?_;simp only[aR,aP,fJ,kO];exact ⟨λe=>j (by rw[<-d,e];simp),λe=>g (d.1 e)⟩
 ·simp only[c_,aV,bm,uR,Option.bind_some,aP,aU,aM];exact ⟨λh=>⟨by omega,by omega,l⟩,λh=>by have:=h.lo;have:=h.hi;omega⟩
structure wT (s:aX):Prop where
 lo:1<=s.aL.length
 hi:s.aL.length<=8
 ok:∀p∈s.aL,1<=p.length/\lO p s.aw.length
theorem HE(s:aX)(hs:iC s):dL (dI 5000 s) (wT s):=by
 simp only[dI,kh,aR,aP];refine ⟨λh=>?_,λh=>?_⟩
 ·simp only[dQ,aM] at h;simp only[aV,wZ];intro k;have:=k.lo;have:=k.hi;omega
 ·simp only[dQ,aM,not_or] at h;refine FX s.aL (λp=>1<=p.length/\lO p s.aw.length) _ (λk=>k.ok) (λi f a Q l g=>?_) (λf m=>?_) (by omega)
  ·have:=hs.part _ (bZ a);simp only[cG a,if_true,bY a,Option.bind_some,bF (show i<1000000 by omega),aR,aP,aM];refine ⟨λe=>g (by omega),λe=>?_⟩;refine (ascending _ _ (by omega)).bind λr j=>?_;simp only[aR,aP,fJ,kO];exact ⟨λd=>g (by rw[<-j,d];simp),λd=>l ⟨by omega,j.1 d⟩⟩
  ·simp only[c_,aV,bm,aP,Hp];exact ⟨by omega,by omega,m⟩
theorem KR(s:aX)(hs:iC s):dL (zbU 5000 s) (wT s):=by
 have:=hs.parts;simp only[zbU,kh];refine FX s.aL (λp=>1<=p.length/\lO p s.aw.length) _ (λk=>k.ok) (λi f a Q l g=>?_) (λf m=>?_) (by omega)
 ·have:=hs.part _ (bZ a);simp only[cG a,if_true,bY a,Option.bind_some,bF (show i<1000000 by omega),aR,aP,aM];refine ⟨λe=>g (by omega),λe=>?_⟩;refine (x_ _ _ (by omega)).bind λr j=>?_;simp only[aR,aP,fJ,kO];exact ⟨λd=>g (by rw[<-j,d];simp),λd=>l ⟨by omega,j.1 d⟩⟩
 ·simp only[c_,aV,bm,uR,Option.bind_some,aP,aU,aM];exact ⟨λh=>⟨by omega,by omega,m⟩,λh=>by have:=h.lo;have:=h.hi;omega⟩
structure Dh (s:aX) (q:Do):Prop where
 part:0<=q.Part/\q.Part<s.aL.length
 Bg:lO q.aT s.aT
 cd:1<=q.gB/\q.gB<=256
 run:1<=q.eR/\q.eR<=256
 user:1<=q.dh/\q.dh<=256
 Wm:0<=q.iy/\q.iy<=100
structure uD (s:aX):Prop where
 lo:1<=s.ah.length
 hi:s.ah.length<=8
 ok:∀q∈s.ah,Dh s q
theorem EN(s:aX)(hs:iC s):dL (zdz 5000 s) (uD s):=by
 simp only[zdz,kh,aR,aP];refine ⟨λh=>?_,λh=>?_⟩
 ·simp only[dQ,aM] at h;simp only[aV,wZ];intro k;have:=k.lo;have:=k.hi;omega
 ·simp only[dQ,aM,not_or] at h;refine FX s.ah (Dh s) _ (λk=>k.ok) (λi f g Q m d=>?_) (λf n=>?_) (by omega)
  ·have:=hs.queue _ (bZ g);simp only[cG g,if_true,bY g,Option.bind_some,bF (show i<1000000 by omega),aV,bm];rw[aR];refine ⟨λe=>?_,λe=>?_⟩
   ·simp only[dQ,aM] at e;rw[aP];exact d λk=>by have:=k.part;omega
   ·simp only[dQ,aM,not_or] at e;refine (ascending _ _ (by omega)).bind λr l=>?_;rw[aR];refine ⟨λa=>?_,λa=>?_⟩
    ·rw[aP];simp only[fJ] at a;exact d λk=>by have:=l.2 k.Bg;rw[a] at this;simp at this
    ·simp only[fJ,kO] at a;refine lpN [_,_,_] 1 256 3 rfl (λp=>d λk=>p (Au.2 ⟨k.cd,k.run,k.user⟩)) (λq=>?_) (by simp);obtain ⟨t,u,v⟩:=Au.1 q;rw[aR];refine ⟨λj=>?_,λj=>?_⟩
     ·simp only[dQ,aM] at j;rw[aP];exact d λk=>by have:=k.Wm;omega
     ·simp only[dQ,aM,not_or] at j;exact m ⟨by omega,l.1 a,t,u,v,by omega⟩
  ·simp only[c_,aV,bm,aP,Hp];exact ⟨by omega,by omega,n⟩
theorem Hm(s:aX)(hs:iC s):dL (zbF 5000 s) (uD s):=by
 have:=hs.lq;simp only[zbF,kh];refine FX s.ah (Dh s) _ (λk=>k.ok) (λi f d Q l a=>?_) (λf m=>?_) (by omega)
 ·have:=hs.queue _ (bZ d);simp only[cG d,if_true,bY d,Option.bind_some,bF (show i<1000000 by omega),aV,bm];rw[aR];refine ⟨λe=>?_,λe=>?_⟩
  ·simp only[dQ,aM] at e;rw[aP];exact a λk=>by have:=k.part;omega
  ·simp only[dQ,aM,not_or] at e;refine (x_ _ _ (by omega)).bind λr j=>?_;simp only[uR,Option.bind_some,aR,aP,fJ,kO,aU,aM,Vz,UO];refine ⟨λg=>a λk=>by have:=j.2 k.Bg;rw[g] at this;simp at this,λg=>⟨λn=>a λk=>by have:=k.cd;omega,λn=>⟨λp=>a λk=>by have:=k.run;omega,λp=>⟨λq=>a λk=>by have:=k.user;omega,λq=>⟨λt=>a λk=>by have:=k.Wm;omega,λt=>?_⟩⟩⟩⟩⟩;exact l ⟨by omega,j.1 g,by omega,by omega,by omega,by omega⟩
 ·simp only[c_,aV,bm,uR,Option.bind_some,aP,aU,aM];exact ⟨λh=>⟨by omega,by omega,m⟩,λh=>by have:=h.lo;have:=h.hi;omega⟩
structure vH (w:Ma):Prop where
 age:0<=w.oJ/\w.oJ<=1000
 size:0<=w.cQ/\w.cQ<=1000
 Wm:0<=w.iy/\w.iy<=1000
 MM:0<=w.bJ/\w.bJ<=1000
theorem BJ(w:Ma):dL (zdd 5000 w) (vH w):=by
 simp only[zdd];refine lpN [w.oJ,w.cQ,w.iy,w.bJ] 0 1000 4 rfl (λh=>?_) (λh=>?_) (by simp)
 ·simp only[aV,wZ];exact λv=>h (uq.2 ⟨v.age,v.size,v.Wm,v.MM⟩)
 ·rw[aP];obtain ⟨a,d,e,f⟩:=uq.1 h;exact ⟨λ_=>⟨a,d,e,f⟩,λ_=>rfl⟩
structure bn (s:aX):Prop where
 nodes:xh s
 parts:wT s
 Bg:1<=s.aT/\s.aT<=8
 lq:uD s
 weights:vH s.ae
 Vq:1<=s.cF/\s.cF<=16
 mode:s.Mode=1∨s.Mode=2
 cd:1<=s.an/\s.an<=256
 ids:1<=s.tc/\s.tc<=1048576
 tQ:1<=s.aK/\s.aK<=65536
 Np:0<=s.bL/\s.bL<=65536
 bX:1<=s.ia/\s.ia<=16
 Jq:1<=s.In/\s.In<=8
 out:1<=s.Out/\s.Out<=16
 Vo:0<=s.cD/\s.cD<=16
theorem mq(s:aX)(hs:iC s):dL (JT 5000 s) (bn s):=by
 simp only[JT,uX];obtain ⟨S,A,m⟩:=HN s;obtain ⟨U,E,n⟩:=HE s hs;obtain ⟨W,F,r⟩:=EN s hs;obtain ⟨Y,G,t⟩:=BJ s.ae;simp only[A,E,F,G,Option.bind_some];have T:∀(x:ByteArray),x.toList≠[]->(¬bn s)->bp ((some x).bind λa=>some (a.toList == (⟨#[]⟩:ByteArray).toList)) λb=>b=true↔bn s:=λx q K=>by
  rw[aF,aP];have:(⟨#[]⟩:ByteArray).toList=[]:=by kernel_rfl
  rw[this];simp only[oQ];exact ⟨λh=>absurd h q,λh=>absurd h K⟩
 have step:∀(c:Bool)(x:ByteArray)(o:Option ByteArray),x.toList.isEmpty=false->(c=false->¬bn s)->(c=true->bp (o.bind λa=>some (a.toList == (⟨#[]⟩:ByteArray).toList)) λb=>b=true↔bn s) ->
   bp ((if (!c)=true then some x else o).bind λa=>some (a.toList == (⟨#[]⟩:ByteArray).toList)) λb=>b=true↔bn s:=λc x o q m n=>by
  cases c with
  |false=>exact T x (by intro h;rw[h] at q;cases q) (m rfl)
  |true=>exact n rfl
 have nb:∀{b:Bool}{p:Prop},(b=true↔p)->b=false->¬p:=λh e L=>by rw[h.2 L] at e;cases e
 refine step _ _ _ (by kernel_rfl) (λe k=>nb m e k.nodes) λc1=>?_;refine step _ _ _ (by kernel_rfl) (λe k=>nb n e k.parts) λM=>?_;refine step _ _ _ (by kernel_rfl) (λe k=>by have:=k.Bg;simp at e;omega) λu=>?_;refine step _ _ _ (by kernel_rfl) (λe k=>nb r e k.lq) λN=>?_;refine step _ _ _ (by kernel_rfl) (λe k=>nb t e k.weights) λO=>?_;refine step _ _ _ (by kernel_rfl) (λe k=>by have:=k.Vq;simp at e;omega) λv=>?_;refine step _ _ _ (by kernel_rfl) (λe k=>by have:=k.mode;simp at e;omega) λw=>?_;refine step _ _ _ (by kernel_rfl) (λe k=>by have:=k.cd;simp at e;omega) λy=>?_;refine step _ _ _ (by kernel_rfl) (λe k=>by have:=k.ids;simp at e;omega) λz=>?_;refine step _ _ _ (by kernel_rfl) (λe k=>by have:=k.tQ;simp at e;omega) λd=>?_;refine step _ _ _ (by kernel_rfl) (λe k=>by have:=k.Np;simp at e;omega) λf=>?_;refine step _ _ _ (by kernel_rfl) (λe k=>by have:=k.bX;simp at e;omega) λg=>?_;refine step _ _ _ (by kernel_rfl) (λe k=>by have:=k.Jq;simp at e;omega) λi=>?_;refine step _ _ _ (by kernel_rfl) (λe k=>by have:=k.out;simp at e;omega) λj=>?_;refine step _ _ _ (by kernel_rfl) (λe k=>by have:=k.Vo;simp at e;omega) λl=>?_;rw[aF,aP];simp only[YN,Hp];simp only[aU,dQ,aM,oQ] at u v w y z d f g i j l;exact ⟨m.1 c1,n.1 M,u,r.1 N,t.1 O,v,w,y,z,d,f,g,i,j,l⟩
theorem DR{n:Nat}(hN:15<n){s:aX}{m p q:Bool}(Z:Zm n s=some m)(K:m=true↔xh s)(e2:zbU n s=some p)(N:p=true↔wT s)(e4:zbF n s=some q)(O:q=true↔uD s):dL (Z_ n s) (bn s):=by
 simp only[Z_,fF,Z,e2,e4,Option.bind_some,uR,kh];have d:∀w:Bool,(w=true↔vH s.ae)->∀(L:List Bool)(M:List ByteArray),L=[m,p,decide (1<=s.aT)&&decide (s.aT<=8),q,w,decide (1<=s.cF)&&decide (s.cF<=16),decide (1<=s.Mode)&&decide (s.Mode<=2),decide (1<=s.an)&&decide (s.an<=256),decide (1<=s.tc)&&decide (s.tc<=1048576),decide (1<=s.aK)&&decide (s.aK<=65536),decide (0<=s.bL)&&decide (s.bL<=65536),decide (1<=s.ia)&&decide (s.ia<=16),decide (1<=s.In)&&decide (s.In<=8),decide (1<=s.Out)&&decide (s.Out<=16),decide (0<=s.cD)&&decide (s.cD<=16)] ->
   (∀x∈M,x.toList≠[])->M.length=15 ->
   bp ((bg (λ(r:Int->Option ByteArray) (g:Int)=>if (decide (g<15))=true then (au L g).bind λt=>if (!t)=true then (au M g).bind λu=>some u else r (IntKind.i64.wrap (g+1)) else some (⟨#[]⟩:ByteArray)) n 0).bind λr1=>some (r1.toList == (⟨#[]⟩:ByteArray).toList)) λb=>b=true↔bn s:=by
  intro w S L M T hM U;have j:L.length=15:=by rw[T];rfl
  have v:(15:Int)=(L.length:Int):=by rw[j];rfl
  have all:(∀x∈L,x=true)↔bn s:=by
   rw[T];simp only[dO,FG,EG,forall_eq_or_imp,forall_eq,aU,aM];constructor
   ·rintro ⟨c1,c2,c3,c4,c5,c6,c7,c8,c9,y,z,A,E,F,G⟩;exact ⟨K.1 c1,N.1 c2,c3,O.1 c4,S.1 c5,c6,by omega,c8,c9,y,z,A,E,F,G⟩
   ·intro k;have:=k.mode;exact ⟨K.2 k.nodes,N.2 k.parts,k.Bg,O.2 k.lq,S.2 k.weights,k.Vq,by omega,k.cd,k.ids,k.tQ,k.Np,k.bX,k.Jq,k.out,k.Vo⟩
  rw[pF,v];have nil:(⟨#[]⟩:ByteArray).toList=[]:=by kernel_rfl
  refine tH L (λ_ x=>x=true) (λi f h _ W=>?_) (λf hA=>?_) (by omega)
  ·simp only[cG h,if_true,bY h,bY (l:=M) (show i<M.length by omega),Option.bind_some,bF (show i<1000000 by omega),aR,aP,fJ,kO,nil,oQ] at W ⊢;exact ⟨λe=>⟨λh'=>absurd h' (hM _ (bZ _)),λk=>by have:=all.2 k _ (bZ h);rw[e] at this;cases this⟩,λe=>W e⟩
  ·simp only[c_,aV,bm,aP,YN,Hp];exact all.1 (zY hA)
 have a:∀x∈([(⟨#[78,111,100,101,115]⟩:ByteArray),(⟨#[80,97,114,116,115]⟩:ByteArray),(⟨#[85,115,101,114,115]⟩:ByteArray),(⟨#[81,117,101,117,101,115]⟩:ByteArray),(⟨#[87,101,105,103,104,116,115]⟩:ByteArray),(⟨#[68,101,99,97,121]⟩:ByteArray),(⟨#[77,111,100,101]⟩:ByteArray),(⟨#[74,111,98,115]⟩:ByteArray),(⟨#[73,100,115]⟩:ByteArray),(⟨#[86,101,114,115,105,111,110,115]⟩:ByteArray),(⟨#[76,105,110,103,101,114]⟩:ByteArray),(⟨#[75,101,101,112]⟩:ByteArray),(⟨#[73,110]⟩:ByteArray),(⟨#[79,117,116]⟩:ByteArray),(⟨#[67,97,99,104,101]⟩:ByteArray)]:List ByteArray),x.toList≠[]:=by intro x Y;simp only[dO,FG,EG] at Y;rcases Y with rfl | rfl | rfl | rfl | rfl | rfl | rfl | rfl | rfl | rfl | rfl | rfl | rfl | rfl | rfl <;> exact yn (by kernel_rfl)
 split
 ·rename_i w1;split
  ·rename_i w2;split
   ·rename_i w3;refine d _ ?_ _ _ rfl a rfl;simp only[aU,aM] at w1 w2 w3 ⊢;exact ⟨λw4=>⟨w1,w2,w3,w4⟩,λk=>k.MM⟩
   ·rename_i w3;refine d _ ?_ _ _ rfl a rfl;simp only[aU,aM] at w3;simp only[aV,wZ];exact λk=>w3 k.Wm
  ·rename_i w2;refine d _ ?_ _ _ rfl a rfl;simp only[aU,aM] at w2;simp only[aV,wZ];exact λk=>w2 k.size
 ·rename_i w1;refine d _ ?_ _ _ rfl a rfl;simp only[aU,aM] at w1;simp only[aV,wZ];exact λk=>w1 k.age
theorem Le(s:aX)(hs:iC s):dL (Z_ 5000 s) (bn s):=by obtain ⟨i,a,d⟩:=LH s hs;obtain ⟨j,e,f⟩:=KR s hs;obtain ⟨k,g,h⟩:=Hm s hs;exact DR (by decide) a d e f g h
end Go.Plain
end
section
namespace Go.Plain
open Go.Abs
structure vj (L:List (Int×Int)) (k:Int):Prop where
 lo:0<=k
 hi:k<=64
 fit:∀p∈L,k * p.2<=p.1
 max:k<64->∃p∈L,p.1<(k+1) * p.2
theorem vj.Hw{L:List (Int×Int)}{k j:Int}(z:∀p∈L,0<=p.2)(h:vj L k)(s:vj L j):k=j:=by
 have i:∀{a b:Int},vj L a->vj L b->¬a<b:=λ{a b} A u E=>by obtain ⟨p,x,F⟩:=A.max (by have:=u.hi;omega);have G:=u.fit p x;have K:(a+1) * p.2<=b * p.2:=YG (by omega) (z p x);omega
 have:=i h s;have:=i s h;omega
theorem vj.nil:vj [] 64:=⟨by omega,by omega,by simp,by simp⟩
def qm(n a b:Int):Int:=if b > 0 then (if a.tdiv b<n then a.tdiv b else n) else n
theorem vj.step{L:List (Int×Int)}{k a b:Int}(h:vj L k)(z:∀p∈L,0<=p.2)(s:0<=a)(M:0<=b):vj (L++[(a,b)]) (qm k a b):=by
 unfold qm;have u:=h.lo;have x:=h.hi;split
 ·rename_i j;rw[yBL s];have A:a / b * b<=a:=Int.ediv_mul_le a (by omega);have E:a<(a / b+1) * b:=Int.lt_ediv_add_one_mul_self a j;have F:0<=a / b:=Int.ediv_nonneg s (by omega);split
  ·rename_i G;refine ⟨F,by omega,λp i=>?_,λ_=>⟨(a,b),by simp,E⟩⟩;rcases uQ.1 i with i | i
   ·have:=h.fit p i;have:a / b * p.2<=k * p.2:=YG (by omega) (z p i);omega
   ·simp only[Mq] at i;subst i;exact A
  ·rename_i K;refine ⟨u,x,λp i=>?_,λhk=>?_⟩
   ·rcases uQ.1 i with i | i
    ·exact h.fit p i
    ·simp only[Mq] at i;subst i;have:k * b<=a / b * b:=YG (by omega) (by omega);dsimp only;omega
   ·obtain ⟨p,i,q⟩:=h.max hk;exact ⟨p,Zt _ i,q⟩
 ·rename_i j;have:b=0:=by omega
  subst this;refine ⟨u,x,λp i=>?_,λhk=>?_⟩
  ·rcases uQ.1 i with i | i
   ·exact h.fit p i
   ·simp only[Mq] at i;subst i;simp;exact s
  ·obtain ⟨p,i,q⟩:=h.max hk;exact ⟨p,Zt _ i,q⟩
theorem Gf{n a b:Int}(h:b > 0):qm n a b=if a.tdiv b<n then a.tdiv b else n:=by unfold qm;rw[if_pos h]
theorem GB{n a b:Int}(h:¬b > 0):qm n a b=n:=by unfold qm;rw[if_neg h]
def O_(a b:aN):List (Int×Int):=[(a.cj,b.cj),(a.Mem,b.Mem),(a.cA,b.cA),(a.cC,b.cC)]
def sE(a b:aN):Int:=qm (qm (qm (qm 64 a.cj b.cj) a.Mem b.Mem) a.cA b.cA) a.cC b.cC
theorem BQ{a b:aN}(e:bo a)(d:bo b):vj (O_ a b) (sE a b):=by have f:=vj.nil;have g:=f.step (by simp) e.B_.1 d.B_.1;have h:=g.step (by simp;exact d.B_.1) e.mem.1 d.mem.1;have i:=h.step (by simp;exact ⟨d.B_.1,d.mem.1⟩) e.Ew.1 d.Ew.1;have j:=i.step (by simp;exact ⟨d.B_.1,d.mem.1,d.Ew.1⟩) e.F_.1 d.F_.1;exact j
theorem w1:IntKind.i64.wrap (0+1)=1:=rfl
theorem w2:IntKind.i64.wrap (1+1)=2:=rfl
theorem w3:IntKind.i64.wrap (2+1)=3:=rfl
theorem w4:IntKind.i64.wrap (3+1)=4:=rfl
theorem wq{a b:Int}(d:0<=a/\a<=1048576)(e:0<b):zx .i64 a b=some (a.tdiv b):=by unfold zx;rw[if_neg (by omega)];have f:0<=a / b:=Int.ediv_nonneg d.1 (by omega);have g:a / b<=a:=Int.ediv_le_self b d.1;rw[yBL d.1,wr (by omega) (by omega)]
def Sg(a b:aN):Nat->Int
 |0=>64
 |1=>qm 64 a.cj b.cj
 |2=>qm (qm 64 a.cj b.cj) a.Mem b.Mem
 |3=>qm (qm (qm 64 a.cj b.cj) a.Mem b.Mem) a.cA b.cA
 |_=>sE a b
theorem count{a b:aN}(g:bo a)(l:bo b)(m:b≠cw):lT 5000 a b=some (sE a b):=by
 obtain ⟨u,n,p⟩:=dj a;obtain ⟨v,q,r⟩:=dj b;have s:=p.2 g;have t:=r.2 l;subst s t;have j:aN.beq b cw=false:=by
  cases h:aN.beq b cw with
  |false=>rfl
  |true=>exact absurd (gz.1 h) m
 simp only[lT,kh,n,q,Option.bind_some,Dm,aV,bm,yCf,dZ];change (if aN.beq b cw=true then some 0 else _)=_;rw[j];simp only[aV,bm];refine bp.eq (uP 4 (λi x=>x=(Sg a b i,(i:Int))) (λi x f w k e=>?_) (λx f k=>?_) rfl (by omega))
 ·subst k;rcases (show i=0∨i=1∨i=2∨i=3 by omega) with rfl | rfl | rfl | rfl
  ·rw[show ((0:Nat):Int)=0 from rfl];simp only[show decide ((0:Int)<4)=true from rfl,if_true,at4x0,Option.bind_some,w1,aR,aM];refine ⟨λd=>?_,λd=>e _ (by simp[Sg,qm,d])⟩;rw[wq g.B_ d,aF];exact e _ (by simp[Sg,qm,d])
  ·rw[show ((1:Nat):Int)=1 from rfl];simp only[show decide ((1:Int)<4)=true from rfl,if_true,Zc,Option.bind_some,w2,aR,aM];refine ⟨λd=>?_,λd=>e _ (by simp only[Sg,sE,GB d];rfl)⟩;rw[wq g.mem d,aF];exact e _ (by simp only[Sg,sE,Gf d];rfl)
  ·rw[show ((2:Nat):Int)=2 from rfl];simp only[show decide ((2:Int)<4)=true from rfl,if_true,Zx,Option.bind_some,w3,aR,aM];refine ⟨λd=>?_,λd=>e _ (by simp only[Sg,sE,GB d];rfl)⟩;rw[wq g.Ew d,aF];exact e _ (by simp only[Sg,sE,Gf d];rfl)
  ·rw[show ((3:Nat):Int)=3 from rfl];simp only[show decide ((3:Int)<4)=true from rfl,if_true,at4x3,Option.bind_some,w4,aR,aM];refine ⟨λd=>?_,λd=>e _ (by simp only[Sg,sE,GB d];rfl)⟩;rw[wq g.F_ d,aF];exact e _ (by simp only[Sg,sE,Gf d];rfl)
 ·subst k;simp only[show decide (((4:Nat):Int)<4)=false from rfl,aV,bm,aP];rfl
theorem Bn{b:aN}(a:bo b):Mv 5000 b cw=some (decide (b=cw)):=by simp only[Mv,ab];have:=a.B_;have:=a.mem;have:=a.Ew;have:=a.F_;rw[Bool.eq_iff_iff];simp only[aU,aM];obtain ⟨d,e,f,g⟩:=b;simp only[cw,aN.mk.injEq];simp only at *;omega
theorem Ks{a b:aN}(j:bo a)(g:bo b)(z:b≠cw):ZT 5000 a b=some (sE a b):=by
 obtain ⟨W,A,u⟩:=uO a;obtain ⟨Y,E,v⟩:=uO b;have F:=u.2 j;have G:=v.2 g;subst F G;simp only[ZT,kh,A,E,Option.bind_some,Dm,aV,bm];have K:Mv 5000 b ({ cj:=0,Mem:=0,cA:=0,cC:=0 }:aN)=some (decide (b=cw)):=Bn g;rw[K];simp only[Option.bind_some,z,decide_false,aV,bm];have Z:=j.B_;have hm:=j.mem;have hg:=j.Ew;have hl:=j.F_;have l:=g.B_;have m:=g.mem;have n:=g.Ew;have q:=g.F_;have L:∀p∈O_ a b,0<=p.2:=by
  intro p e;simp only[O_,dO,FG,EG] at e;rcases e with rfl | rfl | rfl | rfl
  ·exact l.1
  ·exact m.1
  ·exact n.1
  ·exact q.1
 have done:∀k:Int,vj (O_ a b) k->k=sE a b:=λk hk=>hk.Hw L (BQ j g);have d:∀{i:Nat}{y:Int},i<=65->0<=y/\y<=1048576->0<=(i:Int) * y/\(i:Int) * y<=68157440:=λ{i y} M w=>by have u:0<=(i:Int) * y:=Ys (by omega) w.1;have v:(i:Int) * y<=65 * y:=YG (by omega) w.1;omega
 refine bp.eq (uP 64 (λi x=>x=((i:Int),((i+1:Nat):Int) * b.cj,((i+1:Nat):Int) * b.Mem,((i+1:Nat):Int) * b.cA,((i+1:Nat):Int) * b.cC)/\∀p∈O_ a b,(i:Int) * p.2<=p.1) (λi x f M s N=>?_) (λx f s=>?_) ⟨by simp,λp e=>?_⟩ (by omega))
 ·obtain ⟨rfl,t⟩:=s;have m1:=d (i:=i+1) (by omega) l;have m2:=d (i:=i+1) (by omega) m;have m3:=d (i:=i+1) (by omega) n;have m4:=d (i:=i+1) (by omega) q;have r:∀y:Int,((i+1:Nat):Int) * y+y=((i+1+1:Nat):Int) * y:=λy=>by
   rw[show ((i+1+1:Nat):Int)=((i+1:Nat):Int)+1 by omega,Int.add_mul,Int.one_mul]
  simp only[show decide ((i:Int)<64)=true by simp;omega,if_true,Mv,Option.bind_some,WE,aR,aP,aU,aM,bF (show i<1000000 by omega)];rw[wr (by omega) (by omega),wr (by omega) (by omega),wr (by omega) (by omega),wr (by omega) (by omega),r,r,r,r];refine ⟨λh=>N _ ⟨rfl,λp e=>?_⟩,λh=>done _ ⟨by omega,by omega,t,λ_=>?_⟩⟩
  ·simp only[O_,dO,FG,EG] at e;rcases e with rfl | rfl | rfl | rfl
   ·exact h.1.1.1
   ·exact h.1.1.2
   ·exact h.1.2
   ·exact h.2
  ·rw[show ((i:Int)+1)=((i+1:Nat):Int) by omega];by_cases O:a.cj<((i+1:Nat):Int) * b.cj
   ·exact ⟨(a.cj,b.cj),by simp[O_],O⟩
   by_cases S:a.Mem<((i+1:Nat):Int) * b.Mem
   ·exact ⟨(a.Mem,b.Mem),by simp[O_],S⟩
   by_cases T:a.cA<((i+1:Nat):Int) * b.cA
   ·exact ⟨(a.cA,b.cA),by simp[O_],T⟩
   by_cases U:a.cC<((i+1:Nat):Int) * b.cC
   ·exact ⟨(a.cC,b.cC),by simp[O_],U⟩
   exact absurd ⟨⟨⟨by omega,by omega⟩,by omega⟩,by omega⟩ h
 ·obtain ⟨rfl,t⟩:=s;simp only[show decide (((64:Nat):Int)<64)=false from rfl,aV,bm,aP];exact done _ ⟨by omega,by omega,t,λh=>by omega⟩
 ·simp only[O_,dO,FG,EG] at e;rcases e with rfl | rfl | rfl | rfl <;> simp <;> omega
def uj(s:aX)(l:List Int)(a:aN):Int:=(l.map λn=>sE ((s.aw[n.toNat]?).getD cw) a).sum
theorem OZ{a b:aN}(d:bo a)(e:bo b):0<=sE a b/\sE a b<=64:=⟨(BQ d e).lo,(BQ d e).hi⟩
theorem Ae{s:aX}{g:aN}(k:bn s)(r:bo g)(K:g≠cw){l:List Int}(L:l.length<=300)(t:lO l s.aw.length)(C:aN->Option Int)(u:∀a,bo a->C a=some (sE a g)) :
  bg (λ(v:Int×Int->Option Int) (j:Int×Int)=>if (decide (j.2<(l.length:Int)))=true then (au l j.2).bind λw=>(au s.aw w).bind λz=>(C z).bind λA=>v ((IntKind.i64.wrap (j.1+A)),(IntKind.i64.wrap (j.2+1))) else some j.1) 5000 (0,0)=some (uj s l g):=by
 have E:∀(m:List Int),(∀x∈m,x∈l)->0<=uj s m g/\uj s m g<=64 * m.length:=by
  intro m;induction m with
  |nil=>intro _;simp[uj]
  |cons x m ih=>
   intro h;have F:=ih λy G=>h y (kE _ G);have q:=t.mem x (h x (li ..));have d:x.toNat<s.aw.length:=by omega
   have:=OZ (k.nodes.ok (s.aw[x.toNat]) (bZ d)) r;simp only[uj,mb,List.sum_cons,cE d,Option.getD_some,List.length_cons] at F ⊢;omega
 refine bp.eq (uP l.length (λi x=>x=(uj s (l.take i) g,(i:Int))) (λi x f n d p=>?_) (λx f d=>?_) (by simp[uj]) (by omega))
 ·subst d;have q:=t.mem l[i] (bZ n);obtain ⟨d,e⟩:=cS q.1 q.2;have c:=OZ (k.nodes.ok (s.aw[l[i].toNat]) (bZ d)) r;have b:=E (l.take i) λx d=>KZ d;have M:((l.take i).length:Int)<=300:=by rw[zp];omega
  simp only[cG n,if_true,bY n,Option.bind_some,e,u _ (k.nodes.ok _ (bZ d)),bF (show i<1000000 by omega)];rw[wr (by omega) (by omega)];refine p _ ?_;congr 1;rw[RW n];simp only[uj,YI,mb,Yo,List.sum_append,List.sum_cons,List.sum_nil,cE d,Option.getD_some];omega
 ·subst d;simp only[c_,aV,bm,aP,Mw]
theorem JM{s:aX}(hs:iC s)(k:bn s){q m:Int}{d:aN}(f:bo d)(g:d≠cw):∃b,i_ 5000 s q m d=some b/\zch 5000 s q m d=some b:=by
 obtain ⟨w,i,t⟩:=mq s hs;have u:=t.2 k;subst u;by_cases l:0<=q/\q<s.ah.length/\1<=m
 ·obtain ⟨v,e⟩:=cS l.1 l.2.1;have h:=k.lq.ok _ (bZ v);obtain ⟨n,p⟩:=cS h.part.1 h.part.2;have r:=k.parts.ok _ (bZ n);have lp:=hs.part _ (bZ n);refine ⟨decide (uj s (s.aL[s.ah[q.toNat].Part.toNat]) d≥m),?_,?_⟩
  ·simp only[i_,i,Option.bind_some];rw[if_neg (by simp;omega),e,aF];simp only[vx,i,Option.bind_some];rw[if_neg (by have:=h.part;simp;omega),p,aF];have:=Ae k f g (jI lp (by decide)) r.2 (λa=>lT 5000 a d) (λa j=>count j f g);rw[this,aF]
  ·simp only[zch];rw[if_pos (by simp;omega),e,aF];simp only[fw];rw[if_neg (by have:=h.part;simp;omega)];simp only[p,Option.bind_some];have:=Ae k f g (jI lp (by decide)) r.2 (λa=>ZT 5000 a d) (λa j=>Ks j f g);rw[this,aF]
 ·refine ⟨false,?_,?_⟩
  ·simp only[i_,i,Option.bind_some];rw[if_pos (by simp;omega)]
  ·simp only[zch];rw[if_neg (by simp;omega)]
end Go.Plain
end
section
namespace Go.Plain
open Go.Abs
structure t_ (j:aD):Prop where
 st:1<=j.State/\j.State<=6
 start:j.Start≠0->3<=j.State
 fin:j.End≠0->5<=j.State
 ok:j.Ok=true->j.State=4∨j.State=5
 kill:j.kf=true->j.State=4∨j.State=6
structure jL (j:aD):Prop where
 id:1<=j.Id/\j.Id<=1048576
 user:0<=j.bH/\j.bH<=7
 queue:0<=j.Queue/\j.Queue<=7
 Ri:1<=j.aZ/\j.aZ<=64
 cO:bo j.aJ
 Il:j.aJ≠cw
 wall:1<=j.dY/\j.dY<=65536
 uW:j.aA.length<=4
 after:∀d∈j.aA,1<=d.bz/\d.bz<=j.Id-1
 version:1<=j.bA/\j.bA<=281474976710656
 born:0<=j.dy/\j.dy<=1099511627776
 start:0<=j.Start/\j.Start<=1099511627776
 fin:0<=j.End/\j.End<=1099511627776
 arr:0<=j.Array/\j.Array<=j.Id
 state:t_ j
theorem S_(x:Int):bp (qA 5000 x) λr=>r.toList=[]↔¬(1<=x/\x<=6):=by
 simp only[qA,aR,aP,oQ];have e:(⟨#[]⟩:ByteArray).toList=[]:=by kernel_rfl
 refine ⟨λh=>?_,λa=>⟨λh=>?_,λd=>⟨λh=>?_,λf=>⟨λh=>?_,λg=>⟨λh=>?_,λi=>⟨λh=>?_,λj=>?_⟩⟩⟩⟩⟩⟩
 ·exact ⟨λq=>absurd q (yn (by kernel_rfl)),λq=>by omega⟩
 ·exact ⟨λq=>absurd q (yn (by kernel_rfl)),λq=>by omega⟩
 ·exact ⟨λq=>absurd q (yn (by kernel_rfl)),λq=>by omega⟩
 ·exact ⟨λq=>absurd q (yn (by kernel_rfl)),λq=>by omega⟩
 ·exact ⟨λq=>absurd q (yn (by kernel_rfl)),λq=>by omega⟩
 ·exact ⟨λq=>absurd q (yn (by kernel_rfl)),λq=>by omega⟩
 ·exact ⟨λ_=>by omega,λ_=>e⟩
theorem DY(j:aD):dL (fo 5000 j) (t_ j):=by
 have e:(⟨#[]⟩:ByteArray).toList=[]:=by kernel_rfl
 simp only[fo,kh];refine (S_ j.State).bind λr l=>?_;have no:∀{p:Prop},¬p->(false=true↔p):=λh=>by simp[h]
 rw[aR];refine ⟨λh=>?_,λh=>?_⟩
 ·rw[aP];simp only[e,oQ] at h;exact no λk=>l.1 h k.st
 ·simp only[e,oQ] at h;have hs:1<=j.State/\j.State<=6:=yBO λg=>h (l.2 g);simp only[tz,dl,Option.bind_some,aV,bm];have fin:∀Q:Prop,(Q↔((j.Ok=true->j.State=4∨j.State=5)/\(j.kf=true->j.State=4∨j.State=6)->t_ j)/\True)->True:=λ_ _=>trivial;have d:(j.Start≠0->3<=j.State)->(j.End≠0->5<=j.State)->bp (if ((j.Ok&&(j.State != 4))&&(j.State != 5))=true then some false else if ((j.kf&&(j.State != 4))&&(j.State != 6))=true then some false else some true) λb=>b=true↔t_ j:=λf m=>by
   simp only[aR,aP,aU,zC,ne_eq];refine ⟨λq=>no λk=>by have:=k.ok q.1.1;omega,λn=>⟨λq=>no λk=>by have:=k.kill q.1.1;omega,λa=>?_⟩⟩;simp only[Hp];refine ⟨hs,f,m,λo=>?_,λo=>?_⟩
   ·exact yBO λg=>n ⟨⟨o,by omega⟩,by omega⟩
   ·exact yBO λg=>a ⟨⟨o,by omega⟩,by omega⟩
  have mid:(j.Start≠0->3<=j.State)->bp (if (j.End != 0)=true then (if (!((j.State == 5) || (j.State == 6)))=true then some false else if ((j.Ok&&(j.State != 4))&&(j.State != 5))=true then some false else if ((j.kf&&(j.State != 4))&&(j.State != 6))=true then some false else some true) else if ((j.Ok&&(j.State != 4))&&(j.State != 5))=true then some false else if ((j.kf&&(j.State != 4))&&(j.State != 6))=true then some false else some true) λb=>b=true↔t_ j:=λf=>by
   rw[aR];refine ⟨λq=>?_,λq=>d f λi=>absurd i (by simpa using q)⟩;rw[aR];refine ⟨λa=>?_,λa=>d f λ_=>?_⟩
   ·rw[aP];simp only[zC,ne_eq,fJ,Bool.or_eq_false_iff,beq_eq_false_iff_ne] at q a;exact no λk=>by have:=k.fin q;omega
   ·simp only[fJ,Bool.or_eq_false_iff,beq_eq_false_iff_ne] at a;omega
  rw[aR];refine ⟨λq=>?_,λq=>mid λi=>absurd i (by simpa using q)⟩;rw[aR];refine ⟨λa=>?_,λa=>mid λ_=>?_⟩
  ·rw[aP];simp only[zC,ne_eq,dQ,oQ] at q a;exact no λk=>by have:=k.start q;omega
  ·simp only[dQ,oQ] at a;omega
theorem AF(j:aD):dL (ef 5000 j) (jL j):=by
 have no:∀{p:Prop},¬p->bp (some false) (λb=>b=true↔p):=λh=>by rw[aP];simp[h]
 simp only[ef,JR,Option.bind_some];have a:∀{m n x:Int}{o:Option Bool}{P:Prop},(P->m<=x/\x<=n)->(m<=x/\x<=n->bp o λb=>b=true↔P)->bp (if (decide (m<=x)&&decide (x<=n))=true then o else some false) λb=>b=true↔P:=λq l=>by rw[aR];simp only[aU,aM];exact ⟨λh=>l h,λh=>no λp=>h (q p)⟩
 refine a (λk=>k.id) λc1=>a (λk=>k.user) λE=>a (λk=>k.queue) λF=>a (λk=>k.Ri) λG=>?_;refine (dj j.aJ).bind λr w=>?_;rw[aR];refine ⟨λh=>?_,λh=>no λk=>h ?_⟩
 rotate_left
 ·have K:aN.beq j.aJ cw=false:=by
   cases h:aN.beq j.aJ cw with
   |false=>rfl
   |true=>exact absurd (gz.1 h) k.Il
  rw[w.2 k.cO];change (true&&!(aN.beq j.aJ cw))=true;rw[K];rfl
 simp only[aU,fJ] at h;have L:=w.1 h.1;have s:j.aJ≠cw:=λe=>by have l:aN.beq j.aJ cw=false:=h.2;rw[gz.2 e] at l;cases l
 refine a (λk=>k.wall) λM=>?_;have g:dL (eH 5000 j) (j.aA.length<=4/\∀d∈j.aA,1<=d.bz/\d.bz<=j.Id-1):=by
  simp only[eH,aR,aP,JR,Option.bind_some];refine ⟨λh=>?_,λh=>?_⟩
  ·simp only[aM] at h;simp only[aV,wZ];exact λk=>by omega
  ·simp only[aM] at h;refine FX j.aA (λd=>1<=d.bz/\d.bz<=j.Id-1) _ (λk=>k.2) (λi f y Q q l=>?_) (λf N=>?_) (by omega)
   ·simp only[cG y,if_true,bY y,Option.bind_some,bF (show i<1000000 by omega),aR,aP,fJ,Vz,UO];rw[wr (by omega) (by omega)];exact ⟨λe=>l (by omega),λe=>q (by omega)⟩
   ·simp only[c_,aV,bm,aP,Hp];exact ⟨by omega,N⟩
 refine g.bind λT z=>?_;rw[aR];refine ⟨λh=>?_,λh=>no λk=>h (z.2 ⟨k.uW,k.after⟩)⟩;have A:=z.1 h;refine a (λk=>k.version) λO=>a (λk=>k.born) λS=>a (λk=>k.start) λt=>a (λk=>k.fin) λu=>a (λk=>k.arr) λv=>?_;refine (DY j).bind λrs hs=>?_;rw[aP,hs];exact ⟨λk=>⟨c1,E,F,G,L,s,M,A.1,A.2,O,S,t,u,v,k⟩,λk=>k.state⟩
theorem zU(j:aD)(F:j.aA.length<=10):dL (zcF 5000 j) (jL j):=by
 simp only[zcF,kh,Jc,Option.bind_some];refine FX j.aA (λd=>1<=d.bz/\d.bz<=IntKind.i64.wrap (j.Id-1)) _ (λk d hd=>by have:=k.after d hd;have:=k.id;rw[wr (by omega) (by omega)];omega) (λi f m Q a n=>?_) (λf q=>?_) (by omega)
 ·simp only[cG m,if_true,bY m,Option.bind_some,bF (show i<1000000 by omega),aR,aP,fJ,Vz,UO];exact ⟨λe=>n (by omega),λe=>a (by omega)⟩
 ·simp only[c_,aV,bm];obtain ⟨G,r,a⟩:=uO j.aJ;simp only[r,Option.bind_some];have no:∀{p:Prop},¬p->(False↔p):=λh=>by simp[h]
  simp only[if_true,bm,aR,aP,aM,fJ,Vz,UO,aU,aV,kO,zC,ne_eq,dQ,oQ];refine ⟨λc=>no λk=>by have:=k.uW;omega,λK=>⟨λc=>no λk=>by have:=k.id;omega,λc1=>⟨λc=>no λk=>by have:=k.user;omega,λL=>⟨λc=>no λk=>by have:=k.queue;omega,λM=>⟨λc=>no λk=>by have:=k.Ri;omega,λN=>⟨λc=>no λk=>(by have:=a.2 k.cO;rw[c] at this;cases this),λs=>?_⟩⟩⟩⟩⟩⟩;have v:=a.1 s;have t:Mv 5000 j.aJ ({ cj:=0,Mem:=0,cA:=0,cC:=0 }:aN)=some (decide (j.aJ=cw)):=Bn v;simp only[if_true,bm,t,Option.bind_some,aR,aP,aM,fJ,Vz,UO,aU,aV,kO,zC,ne_eq,dQ,oQ];refine ⟨λc=>no λk=>k.Il c,λu=>⟨λc=>no λk=>by have:=k.wall;omega,λO=>⟨λc=>no λk=>by have:=k.state.st;omega,λS=>⟨λc=>no λk=>by have:=k.version;omega,λT=>⟨λc=>no λk=>by have:=k.arr;omega,λw=>⟨λc=>no λk=>by have:=k.born;omega,λx=>⟨λc=>no λk=>by have:=k.start;omega,λy=>⟨λc=>no λk=>by have:=k.fin;omega,λz=>⟨λc=>no λk=>by have:=k.state.start;omega,λA=>⟨λc=>no λk=>by have:=k.state.fin;omega,λE=>⟨λg=>?_,λc=>no λk=>c ?_⟩⟩⟩⟩⟩⟩⟩⟩⟩⟩⟩
  ·constructor
   ·intro l;refine ⟨by omega,by omega,by omega,by omega,v,u,by omega,by omega,λd hd=>?_,by omega,by omega,by omega,by omega,by omega,⟨by omega,by omega,by omega,λo=>?_,λo=>?_⟩⟩
    ·have:=q d hd;rw[wr (by omega) (by omega)] at this;exact this
    ·rcases g with (c | c) | c
     ·rw[o] at c;cases c
     ·exact .inl c
     ·exact .inr c
    ·rcases l with (c | c) | c
     ·rw[o] at c;cases c
     ·exact .inl c
     ·exact .inr c
   ·intro k;cases hk:j.kf with
    |false=>exact .inl (.inl rfl)
    |true=>
     rcases k.state.kill hk with c | c
     ·exact .inl (.inr c)
     ·exact .inr c
  ·cases hk:j.Ok with
   |false=>exact .inl (.inl rfl)
   |true=>
    rcases k.state.ok hk with c | c
    ·exact .inl (.inr c)
    ·exact .inr c
end Go.Plain
end
section
namespace Go.Plain
open Go.Abs
section
variable{X R:Type}{b:(X->Option R)->X->Option R}{Q:R->Prop}
theorem QO(I:X->Prop)(m:X->Nat)(hs:∀x f,I x->(∀d,I d->m d<m x->bp (f d) Q)->bp (b f x) Q){a:X}(g:I a){N:Nat}(i:m a<N):bp (bg b N a) Q:=by
 induction N generalizing a with
 |zero=>omega
 |succ N ih=>exact hs a _ g λd e h=>ih e (by omega)
end
theorem mid{i j:Nat}(h:i+j<1000000):IntKind.i64.wrap (Int.fdiv (IntKind.u64.wrap (IntKind.i64.wrap ((i:Int)+(j:Int)))) (2 ^ 1))=(((i+j) / 2:Nat):Int):=by
 rw[wr (x:=(i:Int)+(j:Int)) (by omega) (by omega)];have a:IntKind.u64.wrap ((i:Int)+(j:Int))=(i:Int)+(j:Int):=by simp only[IntKind.wrap,IntKind.bits,IntKind.signed];simp;omega
 rw[a,Int.fdiv_eq_ediv_of_nonneg _ (by decide)];have:((i:Int)+(j:Int)) / 2 ^ 1=(((i+j) / 2:Nat):Int):=by omega
 rw[this,wr (by omega) (by omega)]
def cB(l:List aD):Prop:=∀i (h:i+1<l.length),l[i].Id<l[i+1].Id
theorem cB.lt{l:List aD}(h:cB l):∀{i j:Nat}(s:i<j)(x:j<l.length),l[i].Id<l[j].Id:=by
 intro i j s x;induction j with
 |zero=>omega
 |succ j ih=>
  have z:=h j x;rcases FU (QN.1 s) with u | u
  ·have:=ih u (by omega);omega
  ·subst u;exact z
theorem cB.inj{l:List aD}(h:cB l){i j:Nat}(u:i<l.length)(x:j<l.length)(e:l[i].Id=l[j].Id):i=j:=by
 rcases Yx i j with s | s | s
 ·have:=h.lt s x;omega
 ·exact s
 ·have:=h.lt s u;omega
structure At (l:List aD) (id:Int) (r:Int):Prop where
 lo:0<=r
 hi:r.toNat<l.length
 is:l[r.toNat].Id=id
theorem At.mem{l:List aD}{id r:Int}(h:At l id r):∃j∈l,j.Id=id:=⟨l[r.toNat]'h.hi,bZ _,h.is⟩
theorem At.Hw{l:List aD}{id r j:Int}(hs:cB l)(h:At l id r)(i:At l id j):r=j:=by have:=hs.inj h.hi i.hi (by rw[h.is,i.is]);have:=h.lo;have:=i.lo;omega
theorem half{l:List aD}(w:l.length<=300)(hs:cB l)(id:Int){R:Type}{Q:R->Prop}(C:aD->Option Bool)(s:∀j∈l,C j=some (decide (j.Id<id)))(E:Int->Option R)
  (t:∀i:Nat,i<=l.length->(∀k (h:k<l.length),k<i->l[k].Id<id)->(∀k (h:k<l.length),i<=k->id<=l[k].Id)->bp (E (i:Int)) Q) :
  ∀ (b : (Int × Int -> Option R) -> Int × Int -> Option R), (∀ f x, b f x = if decide (x.1 < x.2) = true then (au l (IntKind.i64.wrap (Int.fdiv (IntKind.u64.wrap (IntKind.i64.wrap (x.1 + x.2))) (2 ^ 1)))).bind λa => (C a).bind λc => if c = true then f ((IntKind.i64.wrap ((IntKind.i64.wrap (Int.fdiv (IntKind.u64.wrap (IntKind.i64.wrap (x.1 + x.2))) (2 ^ 1))) + 1)), x.2) else f (x.1, (IntKind.i64.wrap (Int.fdiv (IntKind.u64.wrap (IntKind.i64.wrap (x.1 + x.2))) (2 ^ 1)))) else E x.1) ->
   bp (bg b 5000 (0,(l.length:Int))) Q:=by
 intro b u;refine QO (λx=>∃i j:Nat,x=((i:Int),(j:Int))/\i<=j/\j<=l.length/\(∀k (h:k<l.length),k<i->l[k].Id<id)/\(∀k (h:k<l.length),j<=k->id<=l[k].Id)) (λx=>(x.2-x.1).toNat) (λx f v m=>?_) ⟨0,l.length,rfl,by omega,by omega,λk h hk=>by omega,λk h hk=>by omega⟩ (by dsimp only;omega);obtain ⟨i,j,rfl,y,n,p,r⟩:=v;rw[u,aR];dsimp only;refine ⟨λh=>?_,λh=>?_⟩
 ·simp only[aM] at h;rw[mid (by omega)];have g:(i+j) / 2<l.length:=by omega
  rw[bY g,aF,s _ (bZ g),aF,aR];refine ⟨λe=>?_,λe=>?_⟩
  ·simp only[aM] at e;rw[bF (by omega)];refine m _ ⟨(i+j) / 2+1,j,rfl,by omega,n,λk hk d=>?_,r⟩ (by dsimp only;omega);rcases FU (QN.1 d) with q | q
   ·have:=hs.lt q g;omega
   ·subst q;exact e
  ·simp only[aM] at e;refine m _ ⟨i,(i+j) / 2,rfl,by omega,by omega,p,λk hk d=>?_⟩ (by dsimp only;omega);rcases FU d with q | q
   ·have:=hs.lt q hk;omega
   ·subst q;omega
 ·simp only[aM] at h;have:i=j:=by omega
  subst this;exact t i n p r
theorem JP{l:List aD}(n:l.length<=300)(hs:cB l){id:Int}(p:0<=id/\id<=1048576)(g:∀j∈l,0<=j.Id/\j.Id<=1048576):bp (jM 5000 l id) λr=>(r.2=true↔∃j∈l,j.Id=id)/\(r.2=true->At l id r.1):=by
 simp only[jM,zar];rw[pF];refine half n hs id (λj=>some (decide (IntKind.i64.wrap (j.Id-id)<0))) (λj d=>?_) (λi=>if (decide (i<(l.length:Int)))=true then (au l i).bind λs=>(fh 5000 s id).bind λt=>some (i,(t == 0)) else some (i,false)) (λi v m u=>?_) _ (λf x=>rfl)
 ·have:=g j d;rw[wr (by omega) (by omega)];congr 1;rw[Bool.eq_iff_iff];simp only[aM];omega
 ·rw[aR];refine ⟨λh=>?_,λh=>?_⟩
  ·simp only[aM] at h;have a:i<l.length:=by omega
   have:=g _ (bZ a);rw[bY a,aF];simp only[fh,Option.bind_some,aP,oQ];rw[wr (by omega) (by omega)];refine ⟨⟨λe=>⟨_,bZ a,by omega⟩,λ⟨j,d,e⟩=>?_⟩,λe=>⟨by omega,by simpa using a,by simp;omega⟩⟩;obtain ⟨k,hk,rfl⟩:=tE d;rcases Yx k i with q | q | q
   ·have:=m k hk q;omega
   ·subst q;omega
   ·have:=hs.lt q hk;have:=u i a (by omega);omega
  ·simp only[aM] at h;simp only[aP,aV,wZ,false_implies,Kg];rintro ⟨j,d,e⟩;obtain ⟨k,hk,rfl⟩:=tE d;have:=m k hk (by omega);omega
theorem lF{l:List aD}(g:l.length<=300)(id:Int):bp (Pj 5000 l id) λr=>(0<=r↔∃j∈l,j.Id=id)/\(0<=r->At l id r)/\(r<0->r=-1):=by
 simp only[Pj];refine tH l (λ_ j=>j.Id≠id) (λi f h _ a=>?_) (λf h=>?_) (by omega)
 ·simp only[cG h,if_true,bY h,Option.bind_some,bF (show i<1000000 by omega),aR,aP,oQ];exact ⟨λe=>⟨⟨λ_=>⟨_,bZ h,e⟩,λ_=>by omega⟩,λ_=>⟨by omega,by simpa using h,by simpa using e⟩,λh=>by omega⟩,λe=>a e⟩
 ·simp only[c_,aV,bm,aP];refine ⟨⟨λh=>by omega,λ⟨j,d,e⟩=>absurd e (zY (A:=λj=>j.Id≠id) h j d)⟩,λh=>by omega,λ_=>trivial⟩
structure wU (l:List jY) (n:Int) (i:Nat) (x:jY):Prop where
 up:GO (l.map (·.Node)) i<x.Node
 lt:x.Node<n
 lo:1<=x.aZ
 hi:x.aZ<=64
def bB(l:List jY)(n:Int):Prop:=∀i (h:i<l.length),wU l n i l[i]
theorem bB.node{l:List jY}{n:Int}(h:bB l n):lO (l.map (·.Node)) n:=λi j=>by rw[vN] at j;rw[GN];exact ⟨(h i j).up,(h i j).lt⟩
theorem bB.mem{l:List jY}{n:Int}(h:bB l n):∀x∈l,0<=x.Node/\x.Node<n/\1<=x.aZ/\x.aZ<=64:=λx j=>by have s:=h.node.mem x.Node (gZ.2 ⟨x,j,rfl⟩);obtain ⟨i,z,rfl⟩:=tE j;have u:=h i z;exact ⟨s.1,s.2,u.lo,u.hi⟩
theorem xu{l:List jY}{i:Nat}(h:i<l.length):GO (l.map (·.Node)) (i+1)=l[i].Node:=by rw[uv (by simpa using h),GN]
theorem vK(l:List jY)(n:Int)(s:l.length<=300):dL (gK 5000 l n) (bB l n):=by
 simp only[gK];refine uP l.length (λi x=>x=(GO (l.map (·.Node)) i,(i:Int))/\∀j (d:j<l.length),j<i->wU l n j l[j]) (λi x f a e p=>?_) (λx f e=>?_) ⟨rfl,λj d h=>by omega⟩ (by omega)
 ·obtain ⟨rfl,g⟩:=e;simp only[cG a,if_true,bY a,Option.bind_some,bF (show i<1000000 by omega),aR,aP,dQ,aM];refine ⟨λh=>?_,λh=>p _ ⟨by rw[xu a],λj d k=>?_⟩⟩
  ·simp only[aV,wZ];intro r;have q:=r i a;have t:=q.up;have u:=q.lt;have v:=q.lo;have w:=q.hi;omega
  ·rcases FU (QN.1 k) with m | m
   ·exact g j d m
   ·subst m;exact ⟨by omega,by omega,by omega,by omega⟩
 ·obtain ⟨rfl,g⟩:=e;simp only[c_,aV,bm,aP,Hp];exact λi a=>g i a a
theorem AM(l:List jY)(n:Int)(u:l.length<=300):dL (XD 5000 l n) (bB l n):=by
 simp only[XD,kh];refine tH l (λi a=>wU l n i a) (λi f h v e=>?_) (λf h=>?_) (by omega)
 ·have hd:decide ((i:Int) > 0)=decide (0<i):=by simp
  simp only[cG h,if_true,bY h,Option.bind_some,bF (show i<1000000 by omega),aR,aP,aM,hd,aV,bm];have bad:¬(wU l n i l[i])->(False↔bB l n):=λg=>by simp only[wZ];exact λd=>g (d i h)
  refine ⟨λj=>?_,λj=>⟨λp=>bad λk=>by have:=k.lt;omega,λp=>⟨λq=>bad λk=>by have:=k.lo;omega,λq=>⟨λr=>bad λk=>by have:=k.hi;omega,λr=>⟨λs=>?_,λs=>?_⟩⟩⟩⟩⟩
  ·simp only[wZ];intro d;have:=(d.mem _ (bZ h)).1;omega
  ·obtain ⟨m,rfl⟩:∃m,i=m+1:=⟨i-1,by omega⟩;rw[ZV (show m+1<1000000 by omega),bY (show m<l.length by omega)];simp only[Option.bind_some,aR,aM,aP,aV];exact ⟨λt=>bad λk=>by have:=k.up;rw[xu (by omega)] at this;omega,λt=>e ⟨by rw[xu (by omega)];omega,by omega,by omega,by omega⟩⟩
  ·have:i=0:=by omega
   subst this;exact e ⟨by simp only[GO];omega,by omega,by omega,by omega⟩
 ·simp only[c_,aV,bm,aP,Hp];exact h
def oh(l:List jY):Int:=(l.map (·.aZ)).sum
theorem No{l:List jY}(h:∀x∈l,1<=x.aZ/\x.aZ<=64):0<=oh l/\oh l<=64 * l.length:=by
 induction l with
 |nil=>simp[oh]
 |cons x l ih=>have:=ih λy a=>h y (kE _ a);have:=h x (li ..);simp only[oh,mb,List.sum_cons,List.length_cons] at *;omega
theorem Fu{l:List jY}{i:Nat}(h:i<l.length):oh (l.take (i+1))=oh (l.take i)+l[i].aZ:=by rw[RW h];simp only[oh,YI,mb,Yo,List.sum_append,List.sum_cons,List.sum_nil];omega
theorem Fp{l:List jY}{n:Int}(j:l.length<=300)(h:bB l n):kD 5000 l=some (oh l):=by
 simp only[kD];refine bp.eq (uP l.length (λi x=>x=(oh (l.take i),(i:Int))) (λi x f d a e=>?_) (λx f a=>?_) (by simp[oh]) (by omega))
 ·subst a;have q:=h.mem _ (bZ d);have b:=No (l:=l.take i) λx a=>(h.mem x (KZ a)).2.2;have k:((l.take i).length:Int)<=300:=by rw[zp];omega
  have g:QK 5000 l[i].aZ 0 64=some l[i].aZ:=by simp only[QK];rw[if_neg (by simp;omega),if_neg (by simp;omega)]
  simp only[cG d,if_true,bY d,Option.bind_some,g,bF (show i<1000000 by omega)];rw[wr (by omega) (by omega)];exact e _ (by rw[Fu d])
 ·subst a;simp only[c_,aV,bm,aP,Mw]
theorem Kd{l:List jY}{n:Int}(g:l.length<=300)(h:bB l n):zcM 5000 l=some (oh l):=by
 simp only[zcM,kh];refine bp.eq (uP l.length (λi x=>x=(oh (l.take i),(i:Int))) (λi x f d a e=>?_) (λx f a=>?_) (by simp[oh]) (by omega))
 ·subst a;have q:=h.mem _ (bZ d);have b:=No (l:=l.take i) λx a=>(h.mem x (KZ a)).2.2;have j:((l.take i).length:Int)<=300:=by rw[zp];omega
  simp only[cG d,if_true,bY d,Option.bind_some,bF (show i<1000000 by omega)];rw[if_neg (by simp;omega),if_pos (by simp;omega),wr (by omega) (by omega)];exact e _ (by rw[Fu d])
 ·subst a;simp only[c_,aV,bm,aP,Mw]
theorem ET(l:List Int)(g:l.length<=300)(x:Int):dL (zbk 5000 l x) (x∈l):=by
 simp only[dL,zbk,zcU];rw[pF];refine tH l (λ_ y=>x≠y) (λi f h _ a=>?_) (λf h=>?_) (by omega)
 ·simp only[cG h,if_true,bY h,Option.bind_some,bF (show i<1000000 by omega),aR,oQ];refine ⟨λe=>?_,λe=>a e⟩;simp only[aP,aM];exact ⟨λ_=>by rw[e];exact bZ h,λ_=>by omega⟩
 ·simp only[c_,aV,bm,aP,aM];exact ⟨λh=>by omega,λd=>absurd rfl (zY (A:=λy=>x≠y) h x d)⟩
theorem Th(l:List Int)(g:l.length<=300)(x:Int):dL (zdy 5000 l x) (x∈l):=by
 simp only[zdy];refine tH l (λ_ y=>y≠x) (λi f h _ a=>?_) (λf h=>?_) (by omega)
 ·simp only[cG h,if_true,bY h,Option.bind_some,bF (show i<1000000 by omega),aR,oQ,aP,Hp];exact ⟨λe=>by rw[<-e];exact bZ h,λe=>a e⟩
 ·simp only[c_,aV,bm,aP,wZ];exact λd=>absurd rfl (zY (A:=λy=>y≠x) h x d)
structure BT (s:aX) (j:aD) (l:List jY):Prop where
 shares:bB l s.aw.length
 tot:oh l=j.aZ
 q:0<=j.Queue/\j.Queue<s.ah.length
 part:∀x∈l,x.Node∈(s.aL[((s.ah[j.Queue.toNat]?).getD default).Part.toNat]?).getD []
theorem Qj{s:aX}(hs:iC s)(k:bn s)(j:aD)(l:List jY)(q:l.length<=300):dL (kw 5000 s j l) (BT s j l):=by
 have no:∀{p:Prop},¬p->bp (some false) (λb=>b=true↔p):=λh=>by rw[aP];simp[h]
 simp only[kw,kh];refine (vK l _ q).bind λr a=>?_;rw[aR];refine ⟨λh=>?_,λh=>?_⟩
 ·simp only[if_true];exact no λk=>by have:=a.2 k.shares;rw[this] at h;cases h
 ·simp only[fJ,kO] at h;have S:=a.1 h;rw[Fp q S,aF,aR];refine ⟨λg=>no λk=>by have:=k.tot;simp[this] at g,λg=>?_⟩;have y:oh l=j.aZ:=by simpa using g
  rw[aR];refine ⟨λm=>no λk=>by have:=k.q;simp at m;omega,λm=>?_⟩;have n:0<=j.Queue/\j.Queue<s.ah.length:=by simp at m;omega
  obtain ⟨d,e⟩:=cS n.1 n.2;have t:=k.lq.ok _ (bZ d);obtain ⟨u,z⟩:=cS t.part.1 t.part.2;have lp:=hs.part _ (bZ u);have v:(s.aL[((s.ah[j.Queue.toNat]?).getD default).Part.toNat]?).getD []=s.aL[s.ah[j.Queue.toNat].Part.toNat]:=by rw[cE d];simp only[Option.getD_some];rw[cE u];rfl
  rw[e,aF,z,aF];refine FX l (λx=>x.Node∈s.aL[s.ah[j.Queue.toNat].Part.toNat]) _ (λk x d=>by rw[<-v];exact k.part x d) (λi f w Q A E=>?_) (λf F=>?_) (by omega)
  ·simp only[cG w,if_true,bY w,Option.bind_some,bF (show i<1000000 by omega)];refine (ET _ (jI lp (by decide)) _).bind λr a=>?_;simp only[aR,aP,fJ,kO];exact ⟨λe=>E (by rw[<-a,e];simp),λe=>A (a.1 e)⟩
  ·simp only[c_,aV,bm,aP,Hp];exact ⟨S,y,n,by rw[v];exact F⟩
theorem Qp{s:aX}(hs:iC s)(k:bn s)(j:aD)(l:List jY)(n:l.length<=300):dL (zc8 5000 s j l) (BT s j l):=by
 have no:∀{p:Prop},¬p->bp (some false) (λb=>b=true↔p):=λh=>by rw[aP];simp[h]
 simp only[zc8,kh];refine (AM l _ n).bind λr a=>?_;rw[aR];refine ⟨λh=>?_,λh=>?_⟩
 ·simp only[if_true];exact no λk=>by have:=a.2 k.shares;rw[this] at h;cases h
 ·simp only[fJ,kO] at h;have S:=a.1 h;rw[Kd n S,aF,aR];refine ⟨λg=>no λk=>by have:=k.tot;have:=k.q;simp at g;omega,λg=>?_⟩;have q:oh l=j.aZ/\0<=j.Queue/\j.Queue<s.ah.length:=by simp at g;omega
  have m:=q.2;obtain ⟨d,e⟩:=cS m.1 m.2;have t:=k.lq.ok _ (bZ d);obtain ⟨u,y⟩:=cS t.part.1 t.part.2;have lp:=hs.part _ (bZ u);have v:(s.aL[((s.ah[j.Queue.toNat]?).getD default).Part.toNat]?).getD []=s.aL[s.ah[j.Queue.toNat].Part.toNat]:=by rw[cE d];simp only[Option.getD_some];rw[cE u];rfl
  rw[e,aF,y,aF];refine FX l (λx=>x.Node∈s.aL[s.ah[j.Queue.toNat].Part.toNat]) _ (λk x d=>by rw[<-v];exact k.part x d) (λi f w Q z A=>?_) (λf E=>?_) (by omega)
  ·simp only[cG w,if_true,bY w,Option.bind_some,bF (show i<1000000 by omega)];refine (Th _ (jI lp (by decide)) _).bind λr a=>?_;simp only[aR,aP,fJ,kO];exact ⟨λe=>A (by rw[<-a,e];simp),λe=>z (a.1 e)⟩
  ·simp only[c_,aV,bm,aP,Hp];exact ⟨S,q.1,m,by rw[v];exact E⟩
end Go.Plain
end
section
namespace Go.Plain
open Go.Abs
abbrev K3:=Int×Int×Int
def zu(u v:K3):Prop:=u.1<v.1∨(u.1=v.1/\(u.2.1<v.2.1∨(u.2.1=v.2.1/\u.2.2<v.2.2)))
instance (u v:K3):Decidable (zu u v):=by unfold zu;infer_instance
theorem cmp1{N:Nat}(a b:Int):dF N a b=some (if a<b then -1 else if a > b then 1 else 0):=by
 simp only[dF,cmp_isNaN_int,Option.bind_some];simp;split
 ·rfl
 ·split <;> rfl
theorem cmp3{N:Nat}(s:4<N)(u v:K3):bp (QC N ([u.1,u.2.1,u.2.2]:List Int) ([v.1,v.2.1,v.2.2]:List Int)) λr=>(r<0↔zu u v):=by
 obtain ⟨N,rfl⟩:∃M,N=M+5:=⟨N-5,by omega⟩;obtain ⟨a,b,c⟩:=u;obtain ⟨d,e,f⟩:=v;unfold QC;have m:IntKind.i64.wrap (0+1)=1:=rfl;have w1:IntKind.i64.wrap (1+1)=2:=rfl;have w2:IntKind.i64.wrap (2+1)=3:=rfl;have n:∀x y z:Int,au [x,y,z] 0=some x:=λ_ _ _=>rfl;have p:∀x y z:Int,au [x,y,z] 1=some y:=λ_ _ _=>rfl;have q:∀x y z:Int,au [x,y,z] 2=some z:=λ_ _ _=>rfl;simp only[bg,List.length_cons,List.length_nil,cmp1,Option.bind_some,m,w1,w2,n,p,q,zu];simp;by_cases g:a<d
 ·rw[if_pos g];simp[aP];omega
 ·rw[if_neg g];by_cases h:d<a
  ·rw[if_pos h];simp[aP];omega
  ·rw[if_neg h];by_cases i:b<e
   ·rw[if_pos i];simp[aP];omega
   ·rw[if_neg i];by_cases j:e<b
    ·rw[if_pos j];simp[aP];omega
    ·rw[if_neg j];by_cases k:c<f
     ·rw[if_pos k];simp[aP];omega
     ·rw[if_neg k];by_cases l:f<c
      ·rw[if_pos l];simp[aP];omega
      ·rw[if_neg l];simp[aP];omega
def FY(p:List K3)(x:Int):K3:=p.getD x.toNat (0,0,0)
def IZ(p:List K3)(x:Int):Prop:=0<=x/\x<p.length
theorem MD{p:List K3}{x:Int}(h:IZ p x):au p x=some (FY p x):=by obtain ⟨a,e⟩:=cS h.1 h.2;rw[e,FY,LQ,cE a];rfl
theorem wR{N:Nat}(d:4<N){p:List K3}{x y:Int}(e:IZ p x)(f:IZ p y) :
  bp ((au p x).bind λa=>(au p y).bind λb=>(QC N ([a.1,a.2.1,a.2.2]:List Int) ([b.1,b.2.1,b.2.2]:List Int)).bind λr=>some r) λr=>(r<0↔zu (FY p x) (FY p y)):=by
 rw[MD e,MD f,aF,aF];exact (cmp3 d _ _).bind λr g=>aP.2 g
theorem cJ{α:Type}{L R:List α}{y:α}{i:Int}(h:i=L.length):au (L++y::R) i=some y:=by subst h;rw[bY (by simp)];simp
theorem gF{α:Type}{L R:List α}{y z:α}{i:Int}(h:i=L.length):(L++y::R).set i.toNat z=L++z::R:=by subst h;simp
theorem ui{x y:Int}(h:x=y)(a:-9000000<=y)(d:y<9000000):IntKind.i64.wrap x=y:=by rw[wr (by omega) (by omega)];exact h
theorem ZH{N:Nat}{L V R:List Int}{y:Int}{k E:Int}(hk:k=L.length)(r:E=L.length+V.length)(G:V.length<N)(hs:(L++y::V++R).length<=1000) :
  bg (λi (e:Int×List Int)=>
     if (decide (e.1<E))=true then
      (au e.2 (IntKind.i64.wrap (e.1+1))).bind λg=>
      (au e.2 e.1).bind λj=>
      (au e.2 e.1).bind λs=>
      (au (e.2.set e.1.toNat g) (IntKind.i64.wrap (e.1+1))).bind λt=>
      i ((IntKind.i64.wrap (e.1+1)),((e.2.set e.1.toNat g).set (IntKind.i64.wrap (e.1+1)).toNat j))
     else
      some e.2) N (k,L++y::V++R)=some (L++V++y::R):=by
 apply bp.eq;simp only[vU,List.length_cons] at hs;refine QO (I:=λx=>∃d h,x=((d.length:Int),d++y::h++R)/\d++h=L++V/\E=d.length+h.length) (m:=λx=>(E-x.1).toNat) (λx f u z=>?_) ⟨L,V,by rw[hk],rfl,r⟩ (by omega);obtain ⟨d,h,rfl,l,n⟩:=u;have p:=Dj List.length l;simp only[vU] at p;cases h with
 |nil=>simp only[List.length_nil] at n;rw[if_neg (by simp;omega),aP,<-l];simp
 |cons v a=>
  simp only[List.length_cons] at n p;have w:IntKind.i64.wrap ((d.length:Int)+1)=((d++[y]).length:Nat):=ui (by simp) (by simp;omega) (by simp;omega);have A:d++y::v::a++R=(d++[y])++v::(a++R):=by simp
  have q:d++y::v::a++R=d++y::(v::a++R):=by simp
  have F:d++v::(v::a++R)=(d++[v])++v::(a++R):=by simp
  simp only;rw[if_pos (by simp;omega),w,show au (d++y::v::a++R) ((d++[y]).length:Nat)=some v from by rw[A];exact cJ rfl,aF,
   show au (d++y::v::a++R) (d.length:Int)=some y from by rw[q];exact cJ rfl,Option.bind_some,Option.bind_some,q,gF rfl,F,cJ (by simp),Option.bind_some,gF (by simp)]
  refine z _ ⟨d++[v],a,by simp,by rw[<-l];simp,by simp;omega⟩ (by simp;omega)
theorem ZA{N:Nat}{L V R:List Int}{y:Int}{k E:Int}(hk:k=L.length+V.length)(z:E=L.length)(A:V.length<N)(hs:(L++V++y::R).length<=1000) :
  bg (λj (a:Int×List Int)=>
      if (decide (a.1 > E))=true then
       (au a.2 (IntKind.i64.wrap (a.1-1))).bind λg=>
       (au a.2 a.1).bind λl=>
       (au a.2 a.1).bind λp=>
       (au (a.2.set a.1.toNat g) (IntKind.i64.wrap (a.1-1))).bind λq=>
       j ((IntKind.i64.wrap (a.1-1)),((a.2.set a.1.toNat g).set (IntKind.i64.wrap (a.1-1)).toNat l))
      else
       some a.2) N (k,L++V++y::R)=some (L++y::V++R):=by
 apply bp.eq;simp only[vU,List.length_cons] at hs;refine QO (I:=λx=>∃h e,x=(((L++h).length:Int),L++h++y::e)/\h++e=V++R) (m:=λx=>(x.1-E).toNat) (λx f r s=>?_) ⟨V,R,by rw[hk];simp,rfl⟩ (by simp;omega);obtain ⟨h,e,rfl,i⟩:=r;have n:=Dj List.length i;simp only[vU] at n;rcases List.eq_nil_or_concat h with rfl | ⟨d,v,rfl⟩
 ·rw[if_neg (by simp;omega),aP];simp at i;rw[i];simp
 ·simp only[yBH,vU,List.length_cons,List.length_nil] at n i ⊢;have w:IntKind.i64.wrap (((L.length+(d.length+(0+1)):Nat):Int)-1)=((L++d).length:Nat):=ui (by simp;omega) (by simp;omega) (by simp;omega);have t:L++(d++[v])++y::e=(L++d)++v::(y::e):=by simp
  have F:L++(d++[v])++y::e=(L++(d++[v]))++y::e:=rfl;have u:(L++(d++[v]))++v::e=(L++d)++v::(v::e):=by simp
  rw[if_pos (by simp;omega),w,show au (L++(d++[v])++y::e) ((L++d).length:Nat)=some v from by rw[t];exact cJ rfl,aF,
   cJ (by simp),Option.bind_some,Option.bind_some,gF (by simp),u,cJ (by simp),Option.bind_some,gF (by simp)]
  refine s _ ⟨d,v::e,by simp,by rw[<-i];simp⟩ (by simp;omega)
theorem NK{N:Nat}{L U M V R:List Int}{a b n:Int}(ha:a=L.length)(hb:b=L.length+U.length+M.length)(hn:n=U.length)(w:V.length=U.length)(hN:U.length<N)(hs:(L++U++M++V++R).length<=1000) :
  bg (λp (d:Int×List Int)=>
          if (decide (d.1<n))=true then
           (au d.2 (IntKind.i64.wrap (b+d.1))).bind λl=>
           (au d.2 (IntKind.i64.wrap (a+d.1))).bind λq=>
           (au d.2 (IntKind.i64.wrap (a+d.1))).bind λy=>
           (au (d.2.set (IntKind.i64.wrap (a+d.1)).toNat l) (IntKind.i64.wrap (b+d.1))).bind λz=>
           p ((IntKind.i64.wrap (d.1+1)),((d.2.set (IntKind.i64.wrap (a+d.1)).toNat l).set (IntKind.i64.wrap (b+d.1)).toNat q))
          else
           some d.2) N (0,L++U++M++V++R)=some (L++V++M++U++R):=by
 apply bp.eq;simp only[vU] at hs;refine QO (I:=λx=>∃h j i k,x=((U.length:Int)-j.length,h++j++i++k++R)/\h++k++i++j++R=L++V++M++U++R/\k.length=j.length/\j.length<=U.length/\(h.length:Int)=a+U.length-j.length/\(h.length:Int)+j.length+i.length=b+U.length-j.length)
  (m:=λx=>(n-x.1).toNat) (λx f A E=>?_) ⟨L,U,M,V,by simp,rfl,w,by omega,by omega,by omega⟩ (by omega)
 obtain ⟨h,j,i,k,rfl,r,s,F,G,K⟩:=A;cases j with
 |nil=>
  cases k with
  |nil=>rw[if_neg (by simp;omega),aP,<-r]
  |cons=>simp at s
 |cons u e=>
  cases k with
  |nil=>simp at s
  |cons v g=>
   simp only[List.length_cons] at s F G K;have O:=Dj List.length r;simp only[vU,List.length_cons] at O;have S:IntKind.i64.wrap (a+((U.length:Int)-((u::e).length:Nat)))=(h.length:Nat):=ui (by simp;omega) (by omega) (by omega);have T:IntKind.i64.wrap (b+((U.length:Int)-((u::e).length:Nat)))=((h++u::e++i).length:Nat):=ui (by simp;omega) (by simp;omega) (by simp;omega);have W:IntKind.i64.wrap (((U.length:Int)-((u::e).length:Nat))+1)=(U.length:Int)-(e.length:Nat):=ui (by simp;omega) (by omega) (by omega);have Y:h++u::e++i++v::g++R=(h++u::e++i)++v::(g++R):=by simp
   have t:h++u::e++i++v::g++R=h++u::(e++i++v::g++R):=by simp
   have Z:h++v::(e++i++v::g++R)=(h++v::e++i)++v::(g++R):=by simp
   simp only;rw[if_pos (by simp;omega),S,T,W,show au (h++u::e++i++v::g++R) ((h++u::e++i).length:Nat)=some v from by rw[Y];exact cJ rfl,aF,
    show au (h++u::e++i++v::g++R) (h.length:Nat)=some u from by rw[t];exact cJ rfl,Option.bind_some,Option.bind_some,t,gF rfl,Z,cJ (by simp),Option.bind_some,gF (by simp)]
   refine E _ ⟨h++[v],e,i++[u],g,by simp,by rw[<-r];simp,by omega,by omega,by simp;omega,by simp;omega⟩ (by simp;omega)
theorem OO{R:Type}{b:(Int×Int->Option R)->Int×Int->Option R}{Q:R->Prop}{lo a N:Nat}(G:Nat->Prop)(h:lo<=a)(t:a<N)
  (hs:∀f (s r:Nat),lo<=s->s<r->r<=a->(G ((s+r) / 2)->bp (f (((((s+r) / 2:Nat):Int)+1),(r:Int))) Q)->(¬G ((s+r) / 2)->bp (f ((s:Int),(((s+r) / 2:Nat):Int))) Q)->bp (b f ((s:Int),(r:Int))) Q)
  (l:∀f (s:Nat),lo<=s->s<=a->(s=lo∨G (s-1))->(s=a∨¬G s)->bp (b f ((s:Int),(s:Int))) Q):bp (bg b N ((lo:Int),(a:Int))) Q:=by
 refine QO (I:=λx=>∃s r:Nat,x=((s:Int),(r:Int))/\lo<=s/\s<=r/\r<=a/\(s=lo∨G (s-1))/\(r=a∨¬G r)) (m:=λx=>(x.2-x.1).toNat) (λx f n i=>?_) ⟨lo,a,rfl,by omega,h,by omega,.inl rfl,.inl rfl⟩ (by simp;omega);obtain ⟨s,r,rfl,d,p,e,j,k⟩:=n;rcases FU p with q | rfl
 ·refine hs f s r d q e (λg=>i _ ⟨(s+r) / 2+1,r,by simp,by omega,by omega,e,.inr (by simpa using g),k⟩ (by simp;omega)) (λg=>i _ ⟨s,(s+r) / 2,rfl,d,by omega,by omega,j,.inr g⟩ (by simp;omega))
 ·exact l f s d e j k
end Go.Plain
end
section
namespace Go.Plain
open Go.Abs
theorem mL{R:Type}{a b:Nat}{o:Option R}(h:a=b):Dz a b o=o:=by subst h;simp[Dz]
theorem VY {N:Nat} {L U V R:List Int} {m i j:Int} (hm:m=L.length+U.length) (Z:i=U.length) (hj:j=V.length) (hU:0<U.length) (hV:0<V.length) (hN:U.length+V.length<N) (hs:(L++U++V++R).length≤1000) :
    bg (fun s (d:Int×Int×List Int)=>
               if (d.1 != d.2.1)=true then
                 if (decide (d.1 > d.2.1))=true then
                   (
                     bg (fun F (k:Int×List Int)=>
                       if (decide (k.1<d.2.1))=true then
                         (au k.2 (IntKind.i64.wrap (m+k.1))).bind fun t=>
                         (au k.2 (IntKind.i64.wrap ((IntKind.i64.wrap (m-d.1))+k.1))).bind fun G=>
                         (au k.2 (IntKind.i64.wrap ((IntKind.i64.wrap (m-d.1))+k.1))).bind fun ad=>
                         (au (k.2.set (IntKind.i64.wrap ((IntKind.i64.wrap (m-d.1))+k.1)).toNat t) (IntKind.i64.wrap (m+k.1))).bind fun af=>
                         F ((IntKind.i64.wrap (k.1+1)),((k.2.set (IntKind.i64.wrap ((IntKind.i64.wrap (m-d.1))+k.1)).toNat t).set (IntKind.i64.wrap (m+k.1)).toNat G))
                       else
                         some k.2) N (0,d.2.2)).bind fun u=>
                   Dz d.2.2.length u.length <|
                   s ((IntKind.i64.wrap (d.1-d.2.1)),d.2.1,u)
                 else
                   (
                     bg (fun K (l:Int×List Int)=>
                       if (decide (l.1<d.1))=true then
                         (au l.2 (IntKind.i64.wrap ((IntKind.i64.wrap ((IntKind.i64.wrap (m+d.2.1))-d.1))+l.1))).bind fun v=>
                         (au l.2 (IntKind.i64.wrap ((IntKind.i64.wrap (m-d.1))+l.1))).bind fun O=>
                         (au l.2 (IntKind.i64.wrap ((IntKind.i64.wrap (m-d.1))+l.1))).bind fun ak=>
                         (au (l.2.set (IntKind.i64.wrap ((IntKind.i64.wrap (m-d.1))+l.1)).toNat v) (IntKind.i64.wrap ((IntKind.i64.wrap ((IntKind.i64.wrap (m+d.2.1))-d.1))+l.1))).bind fun ax=>
                         K ((IntKind.i64.wrap (l.1+1)),((l.2.set (IntKind.i64.wrap ((IntKind.i64.wrap (m-d.1))+l.1)).toNat v).set (IntKind.i64.wrap ((IntKind.i64.wrap ((IntKind.i64.wrap (m+d.2.1))-d.1))+l.1)).toNat O))
                       else
                         some l.2) N (0,d.2.2)).bind fun w=>
                   Dz d.2.2.length w.length <|
                   s (d.1,(IntKind.i64.wrap (d.2.1-d.1)),w)
               else
                 (
                   bg (fun S (p:Int×List Int)=>
                     if (decide (p.1<d.1))=true then
                       (au p.2 (IntKind.i64.wrap (m+p.1))).bind fun y=>
                       (au p.2 (IntKind.i64.wrap ((IntKind.i64.wrap (m-d.1))+p.1))).bind fun T=>
                       (au p.2 (IntKind.i64.wrap ((IntKind.i64.wrap (m-d.1))+p.1))).bind fun a0=>
                       (au (p.2.set (IntKind.i64.wrap ((IntKind.i64.wrap (m-d.1))+p.1)).toNat y) (IntKind.i64.wrap (m+p.1))).bind fun a1=>
                       S ((IntKind.i64.wrap (p.1+1)),((p.2.set (IntKind.i64.wrap ((IntKind.i64.wrap (m-d.1))+p.1)).toNat y).set (IntKind.i64.wrap (m+p.1)).toNat T))
                     else
                       some p.2) N (0,d.2.2)).bind fun W=>
                 some W) N (i,j,L++U++V++R)=some (L++V++U++R):=by
  apply bp.eq
  simp only [vU] at hs
  refine QO (I:=fun x=>∃q h g r,x=((h.length:Int),(g.length:Int),q++h++g++r)∧q++g++h++r=L++V++U++R∧m=q.length+h.length∧0<h.length∧0<g.length∧h.length≤U.length∧g.length≤V.length) (m:=fun x=>(x.1+x.2.1).toNat) (fun x f hI Y=>?_) ⟨L,U,V,R,by rw [Z,hj],rfl,hm,hU,hV,by omega,by omega⟩ (by simp; omega)
  obtain ⟨q,h,g,r,rfl,E,h2,h3,h4,h5,h6⟩:=hI
  have hl:=Dj List.length E
  simp only [vU] at hl
  have wa:IntKind.i64.wrap (m-(h.length:Int))=(q.length:Int):=ui (by omega) (by omega) (by omega)
  simp only [wa]
  by_cases e:h.length=g.length
  · rw [if_neg (by simp [e])]
    have:=NK (N:=N) (L:=q) (U:=h) (M:=[]) (V:=g) (R:=r) (a:=q.length) (b:=m) (n:=h.length) rfl (by simp; omega) rfl e.symm (by omega) (by simp; omega)
    simp only [DA] at this
    rw [this,Option.bind_some,aP,E]
  · rw [if_pos (by simp; omega)]
    by_cases e2:g.length<h.length
    · rw [if_pos (by simp; omega)]
      have z:h=h.take g.length++h.drop g.length:=(Hi _ _).symm
      have:=NK (N:=N) (L:=q) (U:=h.take g.length) (M:=h.drop g.length) (V:=g) (R:=r) (a:=q.length) (b:=m) (n:=g.length) rfl (by simp; omega) (by simp; omega) (by simp; omega) (by simp; omega) (by simp; omega)
      rw [tD q (h.take _),←z] at this
      rw [this,Option.bind_some,mL (by simp; omega),show IntKind.i64.wrap ((h.length:Int)-g.length)=((h.drop g.length).length:Int) from ui (by simp; omega) (by omega) (by simp; omega)]
      refine Y _ ⟨q++g,h.drop g.length,h.take g.length,r,by simp; omega,?_,by simp; omega,by simp; omega,by simp; omega,by simp; omega,by simp; omega⟩ (by simp; omega)
      rw [←E]
      conv=>rhs; rw [z]
      simp
    · rw [if_neg (by simp; omega)]
      have A:g=g.take (g.length-h.length)++g.drop (g.length-h.length):=(Hi _ _).symm
      have wb:IntKind.i64.wrap (m+(g.length:Int))=m+g.length:=ui rfl (by omega) (by omega)
      have wc:IntKind.i64.wrap (m+(g.length:Int)-h.length)=m+g.length-h.length:=ui rfl (by omega) (by omega)
      have:=NK (N:=N) (L:=q) (U:=h) (M:=g.take (g.length-h.length)) (V:=g.drop (g.length-h.length)) (R:=r) (a:=q.length) (b:=m+g.length-h.length) (n:=h.length) rfl (by simp; omega) rfl (by simp; omega) (by omega) (by simp; omega)
      rw [tD (q++h) (g.take _),←A] at this
      simp only [wb,wc]
      rw [this,Option.bind_some,mL (by simp; omega),show IntKind.i64.wrap ((g.length:Int)-h.length)=((g.take (g.length-h.length)).length:Int) from ui (by simp; omega) (by omega) (by simp; omega)]
      refine Y _ ⟨q,g.drop (g.length-h.length),g.take (g.length-h.length),h++r,by simp; omega,?_,by simp; omega,by simp; omega,by simp; omega,by simp; omega,by simp; omega⟩ (by simp; omega)
      rw [←E]
      conv=>rhs; rw [A]
      simp
end Go.Plain
end
section
namespace Go.Plain
open Go.Abs
def vf(p:List K3)(u v:Int):Prop:=¬zu (FY p v) (FY p u)
def sM(p:List K3)(l:List Int):Prop:=l.Pairwise (vf p)
theorem vf.trans{p:List K3}{a b c:Int}(h:vf p a b)(i:vf p b c):vf p a c:=by unfold vf zu at *;omega
theorem vf.refl{p:List K3}{a:Int}:vf p a a:=by unfold vf zu;omega
theorem zu.le{p:List K3}{a b:Int}(h:zu (FY p a) (FY p b)):vf p a b:=by unfold vf zu at *;omega
theorem Jv{p:List K3}{l:List Int}(h:sM p l){i j:Nat}(a:i<=j)(d:j<l.length):vf p (l.getD i 0) (l.getD j 0):=by
 rcases FU a with e | rfl
 ·have:=Yh.1 h i j (by omega) d e;simpa[LQ,d,show i<l.length by omega] using this
 ·exact .refl
theorem yN{p:List K3}{l:List Int}(h:sM p l){t:Nat}(g:t<=l.length){y:Int}(a:t=0∨vf p (l.getD (t-1) 0) y):∀u∈l.take t,vf p u y:=λu d=>by
 obtain ⟨i,f,rfl⟩:=tE d;simp only[zp] at f;rcases a with rfl | a
 ·omega
 ·have:=Jv h (i:=i) (j:=t-1) (by omega) (by omega);rw[UT];have e:l.getD i 0=l[i]'(by omega):=by simp[LQ,show i<l.length by omega]
  rw[<-e];exact this.trans a
theorem ya{p:List K3}{l:List Int}(h:sM p l){t:Nat}{y:Int}(a:l.length<=t∨vf p y (l.getD t 0)):∀u∈l.drop t,vf p y u:=λu d=>by
 obtain ⟨i,f,rfl⟩:=tE d;simp only[List.length_drop] at f;rcases a with a | a
 ·omega
 ·have:=Jv h (i:=t) (j:=t+i) (by omega) (by omega);rw[List.getElem_drop];have e:l.getD (t+i) 0=l[t+i]'(by omega):=by simp[LQ,show t+i<l.length by omega]
  rw[<-e];exact a.trans this
theorem sM.DH{p:List K3}{l:List Int}(h:sM p l)(t:Nat):sM p (l.take t):=List.Pairwise.sublist (List.take_sublist _ _) h
theorem sM.Eb{p:List K3}{l:List Int}(h:sM p l)(t:Nat):sM p (l.drop t):=List.Pairwise.sublist (List.drop_sublist _ _) h
theorem IK{p:List K3}{l:List Int}(h:sM p l){t:Nat}(f:t<=l.length){y:Int}(g:t=0∨vf p (l.getD (t-1) 0) y)(i:l.length<=t∨vf p y (l.getD t 0)):sM p (l.take t++y::l.drop t):=by
 have a:=yN h f g;have b:=ya h i;refine Mb.2 ⟨h.DH t,yBW.2 ⟨b,h.Eb t⟩,λu e v d=>?_⟩;rcases dO.1 d with rfl | d
 ·exact a u e
 ·exact (a u e).trans (b v d)
theorem gO{L B R:List Int}{t k:Nat}(hk:k=L.length+t)(a:t<B.length):(L++B++R).getD k 0=B.getD t 0:=by subst hk;simp only[LQ];rw[tD,Jo (by omega),CU (by omega),yBV]
theorem Cp{l:List Int}{k:Nat}{i:Int}(h:i=(k:Int))(hk:k<l.length):au l i=some (l.getD k 0):=by subst h;rw[bY hk];simp[LQ,hk]
theorem w_{p:List K3}{l:List Int}(h:∀x∈l,IZ p x){k:Nat}(hk:k<l.length):IZ p (l.getD k 0):=by
 have:l.getD k 0=l[k]:=by simp[LQ,hk]
 rw[this];exact h _ (bZ hk)
theorem vC{X R:Type}{K:X->Option R}{J:(X->Option R)->Option R}{Q:R->Prop}(SO:X->Prop)(a:∀k,(∀x,SO x->bp (k x) Q)->bp (J k) Q)(d:∀x,SO x->bp (K x) Q):bp (jn K J) Q:=a K d
set_option maxHeartbeats 4000000 in
theorem Ea{p:List K3}:∀(N:Nat)(P A B S:List Int)(a m b:Int),A≠[]->B≠[]->(P++A++B++S).length<=1000->(∀x∈P++A++B++S,IZ p x)->A.length+B.length+1100<=N ->
  a=P.length->m=P.length+A.length->b=P.length+A.length+B.length ->
  bp (zaL N (P++A++B++S) a m b p) λr=>∃C,r=P++C++S/\C.Perm (A++B)/\(sM p A->sM p B->sM p C):=by
 intro N;induction N with
 |zero=>intro P A B S a m b _ _ _ _ h;omega
 |succ N ih=>
  intro P A B S a m b hA hB hl F hN ha hm hb;have a5:0<A.length:=Me.2 hA;have a6:0<B.length:=Me.2 hB;have a0:=hl;simp only[vU] at a0;show bp (if (IntKind.i64.wrap (m-a) == 1)=true then _ else _) _;rw[aR];have w1:IntKind.i64.wrap (m-a)=A.length:=ui (by omega) (by omega) (by omega);have w2:IntKind.i64.wrap (b-m)=B.length:=ui (by omega) (by omega) (by omega);rw[w1];refine ⟨λO=>?_,λO=>?_⟩
  ·
   obtain ⟨y,rfl⟩:∃y,A=[y]:=by
    match A,O with
    |[y],_=>exact ⟨y,rfl⟩
    |[],O=>simp at O
    |_::_::_,O=>simp at O;omega
   have hy:au (P++[y]++B++S) a=some y:=by rw[show P++[y]++B++S=P++y::(B++S) by simp];exact cJ ha
   have a1:IZ p y:=F y (by simp);simp only[List.length_cons,List.length_nil] at hm hb a0 hN;obtain ⟨q,rfl⟩:∃q:Nat,m=q:=⟨P.length+1,by omega⟩;obtain ⟨K,rfl⟩:∃K:Nat,b=K:=⟨P.length+1+B.length,by omega⟩;refine OO (λh=>zu (FY p ((P++[y]++B++S).getD h 0)) (FY p y)) (by omega) (by omega) (λf s r T U n hg hn=>?_) (λf s T U n w=>?_)
   ·have G:(s+r) / 2<(P++[y]++B++S).length:=by simp;omega
    simp only;rw[if_pos (by simp;omega),mid (by omega),Cp rfl G,aF,hy,aF,ui (x:=(((s+r) / 2:Nat):Int)+1) rfl (by omega) (by omega)];refine (wR (by omega) (w_ F G) a1).bind λr M=>?_;rw[aR];exact ⟨λh=>hg (M.1 (by simpa using h)),λh=>hn λg=>h (by simpa using M.2 g)⟩
   ·simp only;rw[if_neg (by simp)];have ht:s-q<=B.length:=by omega
    have a3:B=B.take (s-q)++B.drop (s-q):=(Hi _ _).symm;have e:P++[y]++B++S=P++y::B.take (s-q)++(B.drop (s-q)++S):=by simp only[tD,List.cons_append,List.nil_append];rw[<-tD (List.take _ _) (List.drop _ _) S,Hi]
    rw[ui (x:=(s:Int)-1) (y:=(P.length:Int)+(B.take (s-q)).length) (by simp;omega) (by omega) (by simp;omega)]
    conv in (P++[y]++B++S)=>rw[e]
    rw[ZH ha rfl (by simp;omega) (by simp;omega),aP];refine ⟨B.take (s-q)++y::B.drop (s-q),by simp,?_,λ_ hb=>IK hb ht ?_ ?_⟩
    ·conv=>rhs;rw[a3]
     exact List.perm_middle
    ·rcases n with n | n
     ·left;omega
     ·by_cases W:s-q=0
      ·exact .inl W
      ·right;rw[gO (L:=P++[y]) (B:=B) (R:=S) (t:=s-q-1) (by simp;omega) (by omega)] at n;exact n.le
    ·rcases w with w | w
     ·left;omega
     ·by_cases W:B.length<=s-q
      ·exact .inl W
      ·right;rw[gO (L:=P++[y]) (B:=B) (R:=S) (t:=s-q) (by simp;omega) (by omega)] at w;exact w
  ·rw[aR,w2];refine ⟨λh2=>?_,λh2=>?_⟩
   ·
    obtain ⟨y,rfl⟩:∃y,B=[y]:=by
     match B,h2 with
     |[y],_=>exact ⟨y,rfl⟩
     |[],O=>simp at O
     |_::_::_,O=>simp at O;omega
    have hy:au (P++A++[y]++S) m=some y:=by rw[show P++A++[y]++S=(P++A)++y::S by simp];exact cJ (by simp;omega)
    have a1:IZ p y:=F y (by simp);simp only[List.length_cons,List.length_nil] at hm hb a0 hN;obtain ⟨E,rfl⟩:∃E:Nat,a=E:=⟨P.length,by omega⟩;obtain ⟨q,rfl⟩:∃q:Nat,m=q:=⟨P.length+A.length,by omega⟩;refine OO (λh=>¬zu (FY p y) (FY p ((P++A++[y]++S).getD h 0))) (by omega) (by omega) (λf s r T U n hg hn=>?_) (λf s T U n w=>?_)
    ·have G:(s+r) / 2<(P++A++[y]++S).length:=by simp;omega
     simp only;rw[if_pos (by simp;omega),mid (by omega),hy,aF,Cp rfl G,aF,ui (x:=(((s+r) / 2:Nat):Int)+1) rfl (by omega) (by omega)];refine (wR (by omega) a1 (w_ F G)).bind λr M=>?_;rw[aR];refine ⟨λh=>hg λg=>?_,λh=>hn λg=>?_⟩
     ·have:=M.2 g;simp at h;omega
     ·simp at h;exact g (M.1 h)
    ·simp only;rw[if_neg (by simp)];have ht:s-E<=A.length:=by omega
     have a2:A=A.take (s-E)++A.drop (s-E):=(Hi _ _).symm;have e:P++A++[y]++S=(P++A.take (s-E))++A.drop (s-E)++y::S:=by
      conv=>lhs;rw[a2]
      simp
     conv in (P++A++[y]++S)=>rw[e]
     rw[ZA (by simp;omega) (by simp;omega) (by simp;omega) (by simp;omega),aP];refine ⟨A.take (s-E)++y::A.drop (s-E),by simp,?_,λhb _=>IK hb ht ?_ ?_⟩
     ·conv=>rhs;rw[a2]
      simp only[tD];exact yBI _ (yBJ (l₁:=[y]))
     ·rcases n with n | n
      ·left;omega
      ·by_cases W:s-E=0
       ·exact .inl W
       ·right;rw[show P++A++[y]++S=P++A++([y]++S) by simp,gO (L:=P) (B:=A) (t:=s-E-1) (by omega) (by omega)] at n;exact n
     ·rcases w with w | w
      ·left;omega
      ·by_cases W:A.length<=s-E
       ·exact .inl W
       ·right;rw[show P++A++[y]++S=P++A++([y]++S) by simp,gO (L:=P) (B:=A) (t:=s-E) (by omega) (by omega)] at w;exact (Classical.not_not.1 w).le
   ·
    have a2:2<=A.length:=by
     rcases pY A.length 2 with h | h
     ·exact absurd (show ((A.length:Int) == 1)=true by simp;omega) O
     ·exact h
    have a3:2<=B.length:=by
     rcases pY B.length 2 with h | h
     ·exact absurd (show ((B.length:Int) == 1)=true by simp;omega) h2
     ·exact h
    obtain ⟨E,rfl⟩:∃E:Nat,a=E:=⟨P.length,by omega⟩;obtain ⟨q,rfl⟩:∃q:Nat,m=q:=⟨P.length+A.length,by omega⟩;obtain ⟨K,rfl⟩:∃K:Nat,b=K:=⟨P.length+A.length+B.length,by omega⟩;have af:=mid (i:=E) (j:=K) (by omega);obtain ⟨z,a4⟩:∃z,z=(E+K) / 2:=⟨_,rfl⟩;rw[<-a4] at af;simp only[af];have wn:IntKind.i64.wrap ((z:Int)+(q:Int))=((z+q:Nat):Int):=ui (by simp) (by omega) (by omega);simp only[wn];have a7:(P++A++B++S).length=P.length+A.length+B.length+S.length:=by simp;omega
    refine vC (λx=>∃lo hi:Nat,x=((lo:Int),(hi:Int))/\lo<=hi/\hi<=z/\hi<=q/\E<=lo/\z+q<=K+lo/\(lo=E∨z+q=K+lo)/\(hi=q∨hi=z)) (λk hk=>?_) ?_
    ·rw[aR];refine ⟨λh=>hk _ ⟨z+q-K,z,?_,?_⟩,λh=>hk _ ⟨E,q,rfl,?_⟩⟩
     ·rw[ui (x:=((z+q:Nat):Int)-(K:Int)) (y:=((z+q-K:Nat):Int)) (by simp at h;omega) (by omega) (by omega)]
     ·simp at h;omega
     ·simp at h;omega
    ·rintro _ ⟨lo,hi,rfl,q1,q2,q3,q4,q5,q6,q7⟩;refine OO (λc=>¬zu (FY p ((P++A++B++S).getD (z+q-1-c) 0)) (FY p ((P++A++B++S).getD c 0))) q1 (by omega) (λf s r T U n hg hn=>?_) (λf s T U n w=>?_)
     ·have G:(s+r) / 2<(P++A++B++S).length:=by omega
      have ak:z+q-1-(s+r) / 2<(P++A++B++S).length:=by omega
      have wp:IntKind.i64.wrap (((z+q:Nat):Int)-1)=((z+q-1:Nat):Int):=ui (by omega) (by omega) (by omega);simp only;rw[if_pos (by simp;omega),mid (by omega),wp,ui (x:=((z+q-1:Nat):Int)-(((s+r) / 2:Nat):Int)) (y:=((z+q-1-(s+r) / 2:Nat):Int)) (by omega) (by omega) (by omega),Cp rfl ak,aF,Cp rfl G,aF,ui (x:=(((s+r) / 2:Nat):Int)+1) rfl (by omega) (by omega)];refine (wR (by omega) (w_ F ak) (w_ F G)).bind λr M=>?_;rw[aR];refine ⟨λh=>hg λg=>?_,λh=>hn λg=>?_⟩
      ·have:=M.2 g;simp at h;omega
      ·simp at h;exact g (M.1 h)
     ·simp only;rw[if_neg (by simp)];have we:IntKind.i64.wrap (((z+q:Nat):Int)-(s:Int))=((z+q-s:Nat):Int):=ui (by omega) (by omega) (by omega);simp only[we];obtain ⟨d,a8⟩:∃d,d=s-E:=⟨_,rfl⟩;obtain ⟨l,a9⟩:∃l,l=z-s:=⟨_,rfl⟩;have la:d<=A.length:=by omega
      have lb:l<=B.length:=by omega
      have eA:A=A.take d++A.drop d:=(Hi _ _).symm;have eB:B=B.take l++B.drop l:=(Hi _ _).symm;have bc:(A.take d).length=d:=by simp;omega
      have bd:(A.drop d).length=A.length-d:=by simp
      have be:(B.take l).length=l:=by simp;omega
      have bh:(B.drop l).length=B.length-l:=by simp
      have f1:d=0∨B.length<=l∨vf p (A.getD (d-1) 0) (B.getD l 0):=by
       by_cases W:d=0
       ·exact .inl W
       by_cases Y:B.length<=l
       ·exact .inr (.inl Y)
       rcases n with n | n
       ·omega
       rw[gO (L:=P++A) (B:=B) (R:=S) (t:=l) (by simp;omega) (by omega),show P++A++B++S=P++A++(B++S) by simp,gO (L:=P) (B:=A) (t:=d-1) (by omega) (by omega)] at n;exact .inr (.inr n)
      have f2:l=0∨A.length<=d∨vf p (B.getD (l-1) 0) (A.getD d 0):=by
       by_cases W:l=0
       ·exact .inl W
       by_cases Y:A.length<=d
       ·exact .inr (.inl Y)
       rcases w with w | w
       ·omega
       rw[gO (L:=P++A) (B:=B) (R:=S) (t:=l-1) (by simp;omega) (by omega),show P++A++B++S=P++A++(B++S) by simp,gO (L:=P) (B:=A) (t:=d) (by omega) (by omega)] at w;exact .inr (.inr (Classical.not_not.1 w).le)
      refine vC (λx=>x=P++A.take d++B.take l++A.drop d++B.drop l++S) (λk hk=>?_) ?_
      ·rw[aR];refine ⟨λh=>?_,λh=>hk _ ?_⟩
       ·simp only[aU,aM] at h;have e:P++A++B++S=(P++A.take d)++A.drop d++B.take l++(B.drop l++S):=by
         simp only[tD];rw[<-tD (B.take l) (B.drop l) S,Hi,<-tD (A.take d) (A.drop d),Hi]
        conv in (P++A++B++S)=>rw[e]
        rw[VY (by simp;omega) (by rw[ui rfl (by omega) (by omega)];omega) (by rw[ui rfl (by omega) (by omega)];omega) (by omega) (by omega) (by omega) (by simp;omega),aF,mL (by rw[e];simp;omega)];exact hk _ (by simp)
       ·simp only[aU,aM,yB4] at h;rcases h with h | h
        ·have:A.drop d=[]:=by rw[<-QJ];omega
         have e2:A.take d=A:=by rw[this] at eA;simpa using eA.symm
         rw[this,e2]
         conv=>lhs;rw[eB]
         simp
        ·have:B.take l=[]:=by rw[<-QJ];omega
         have e2:B.drop l=B:=by rw[this] at eB;simpa using eB.symm
         rw[this,e2]
         conv=>lhs;rw[eA]
         simp
      ·rintro _ rfl;refine vC (λx=>∃Z,x=P++Z++A.drop d++B.drop l++S/\Z.Perm (A.take d++B.take l)/\(sM p (A.take d)->sM p (B.take l)->sM p Z)) (λk hk=>?_) ?_
       ·rw[aR];refine ⟨λh=>?_,λh=>hk _ ⟨A.take d++B.take l,by simp,.refl _,λY h4=>?_⟩⟩
        ·simp only[aU,aM] at h;have e:P++A.take d++B.take l++A.drop d++B.drop l++S=P++A.take d++B.take l++(A.drop d++B.drop l++S):=by simp
         have r:=ih P (A.take d) (B.take l) (A.drop d++B.drop l++S) E s z (by rw[<-Me];omega) (by rw[<-Me];omega) (by rw[<-e];simp;omega) (λx hx=>F x (by
          rw[<-e] at hx;simp only[uQ] at hx ⊢;rcases hx with ((((h | h) | h) | h) | h) | h
          ·exact .inl (.inl (.inl h))
          ·exact .inl (.inl (.inr (KZ h)))
          ·exact .inl (.inr (KZ h))
          ·exact .inl (.inl (.inr (WN h)))
          ·exact .inl (.inr (WN h))
          ·exact .inr h)) (by omega) ha (by omega) (by omega)
         rw[<-e] at r;refine r.bind λr M=>?_;obtain ⟨C,rfl,Y,h4⟩:=M;have h5:=Y.length_eq;simp only[vU] at h5;rw[mL (by simp;omega)];exact hk _ ⟨C,by simp,Y,h4⟩
        ·simp only[aU,aM,yB4] at h;rcases h with h | h
         ·have:A.take d=[]:=by rw[<-QJ];omega
          rw[this];exact h4
         ·have:B.take l=[]:=by rw[<-QJ];omega
          rw[this,DA];exact Y
       ·rintro _ ⟨Z,rfl,g1,g2⟩;have lC:=g1.length_eq;simp only[vU] at lC;have ad:∀C2:List Int,C2.Perm (A.drop d++B.drop l)->sM p A->sM p B->∀u∈Z,∀v∈C2,vf p u v:=λC2 g3 sA sB u hu v F=>by
         have hu:=uQ.1 (g1.mem_iff.1 hu);have F:=uQ.1 (g3.mem_iff.1 F);rcases hu with hu | hu <;> rcases F with F | F
         ·have:=Mb.1 (eA▸sA:sM p (A.take d++A.drop d));exact this.2.2 u hu v F
         ·rcases f1 with f1 | f1 | f1
          ·subst f1;simp at hu
          ·rw[UK f1] at F;simp at F
          ·exact ya sB (.inr (yN sA la (.inr f1) u hu)) v F
         ·rcases f2 with f2 | f2 | f2
          ·rw[f2] at hu;simp at hu
          ·rw[UK f2] at F;simp at F
          ·exact ya sA (.inr (yN sB lb (.inr f2) u hu)) v F
         ·have:=Mb.1 (eB▸sB:sM p (B.take l++B.drop l));exact this.2.2 u hu v F
        have ax:∀C2:List Int,C2.Perm (A.drop d++B.drop l)->(Z++C2).Perm (A++B):=λC2 g3=>by
         refine (List.Perm.append g1 g3).trans ?_
         conv=>rhs;rw[eA,eB]
         simp only[tD];refine yBI _ ?_;rw[<-tD,<-tD (A.drop d)];exact List.Perm.append_right _ yBJ
        rw[aR];refine ⟨λh=>?_,λh=>aP.2 ⟨Z++(A.drop d++B.drop l),by simp,ax _ (.refl _),λsA sB=>?_⟩⟩
        ·simp only[aU,aM] at h;have e:P++Z++A.drop d++B.drop l++S=(P++Z)++A.drop d++B.drop l++S:=rfl;have r:=ih (P++Z) (A.drop d) (B.drop l) S z ((z+q-s:Nat):Int) K (by rw[<-Me];omega) (by rw[<-Me];omega) (by simp;omega) (λx hx=>F x (by
          simp only[uQ] at hx ⊢;rcases hx with (((h | h) | h) | h) | h
          ·exact .inl (.inl (.inl h))
          ·rcases uQ.1 (g1.mem_iff.1 h) with h | h
           ·exact .inl (.inl (.inr (KZ h)))
           ·exact .inl (.inr (KZ h))
          ·exact .inl (.inl (.inr (WN h)))
          ·exact .inl (.inr (WN h))
          ·exact .inr h)) (by omega) (by simp;omega) (by simp;omega) (by simp;omega)
         refine r.bind λr M=>?_;obtain ⟨C2,rfl,Y,h4⟩:=M;refine aP.2 ⟨Z++C2,by simp,ax _ Y,λsA sB=>?_⟩;exact Mb.2 ⟨g2 (sA.DH _) (sB.DH _),h4 (sA.Eb _) (sB.Eb _),ad _ Y sA sB⟩
        ·refine Mb.2 ⟨g2 (sA.DH _) (sB.DH _),?_,ad _ (.refl _) sA sB⟩;simp only[aU,aM,yB4] at h;rcases h with h | h
         ·have:A.drop d=[]:=by rw[<-QJ];omega
          rw[this];exact sB.Eb _
         ·have:B.drop l=[]:=by rw[<-QJ];omega
          rw[this,DA];exact sA.Eb _
end Go.Plain
end
