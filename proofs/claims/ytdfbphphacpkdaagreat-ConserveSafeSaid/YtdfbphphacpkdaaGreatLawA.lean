/- TyP1, TyP2, TyP3, TyP4, TyP5, TyP6, TyP7, TyL1, TyL2, TyL3 -/
import Derived.Test.YtdfbphphacpkdaaGreatTyPure
import Derived.KernelRfl
import Derived.Laws.BitsLemmas
set_option linter.all false
open Go.IntKind (i64 u64)
section
namespace Go.Plain
open Go.Abs
instance glT:Gl:={ ok:=λ_ _=>True,mono:=λ_ _=>trivial }
theorem wr{x:Int}(a:-9223372036854775808<=x)(d:x<9223372036854775808):i64.wrap x=x:=by rw[IntKind.wrap_i64];omega
theorem bS{i:Nat}(h:i<1000000):i64.wrap ((i:Int)+1)=((i+1:Nat):Int):=by grind [wr]
theorem wp1{i:Nat}(h:i+1<1000000):i64.wrap (((i+1:Nat):Int)-1)=(i:Int):=by grind [wr]
theorem bV{α:Type}{l:List α}{i:Nat}(h:i<l.length):aB l (i:Int)=some l[i]:=by
 unfold aB
 simp_all
theorem Eh{α:Type}{l:List α}{x:Int}(d:0<=x)(h:x<l.length):∃a:x.toNat<l.length,aB l x=some (l[x.toNat]'a):=by
 have a:x.toNat<l.length:=by omega
 refine ⟨a,?_⟩;unfold aB
 simp_all
theorem cK{i n:Nat}(h:i<n):decide ((i:Int)<(n:Int))=true:=by simp_all
theorem eC{n:Nat}:decide ((n:Int)<(n:Int))=false:=by simp
theorem Aw{α:Type}{l m:List α}(h:l.length+m.length<=1000000):bI l m=some (l++m):=by unfold bI;simp_all
theorem xQ{α:Type}{m:List α}(h:m.length<=1000000):bI [] m=some m:=by grind [Aw]
theorem dW{X R:Type}(r:X->Option R)(b:(X->Option R)->Option R):jn r b=b r:=rfl
def bM{β:Type}(o:Option β)(Q:β->Prop):Prop:=∃r,o=some r/\Q r
abbrev fH(o:Option Bool)(P:Prop):Prop:=bM o λb=>b=true↔P
section
variable{α β γ σ:Type}{o:Option α}{P Q:α->Prop}
theorem bM.mono(h:bM o P)(i:∀r,P r->Q r):bM o Q:=by obtain ⟨r,j,s⟩:=h;exact ⟨r,j,i r s⟩
theorem bM.bind{f:α->Option β}{R:β->Prop}(h:bM o P)(i:∀r,P r->bM (f r) R):bM (o.bind f) R:=by obtain ⟨r,rfl,j⟩:=h;simp_all
theorem aZ{r:α}:bM (some r) Q↔Q r:=by simp[bM]
theorem jV{f:α->Option β}{R:β->Prop}:bM (o.bind f) R↔bM o λr=>bM (f r) R:=by cases o <;> simp[bM]
theorem bp{c:Prop}[Decidable c]{a b:Option α}:bM (if c then a else b) Q↔(c->bM a Q)/\(¬c->bM b Q):=by grind
theorem bM.eq{r:α}(h:bM o λx=>x=r):o=some r:=by obtain ⟨_,h,rfl⟩:=h;exact h
end
section
variable{X R α:Type}{b:(X->Option R)->X->Option R}{Q:R->Prop}
theorem jb(n:Nat)(Inv:Nat->X->Prop)(hs:∀i x f,i<n->Inv i x->(∀d,Inv (i+1) d->bM (f d) Q)->bM (b f x) Q)
  (j:∀x f,Inv n x->bM (b f x) Q) {x0:X} (l:Inv 0 x0) {N:Nat} (m:n<N):bM (bz b N x0) Q:=by
 have:∀k i x,i<=n->n<i+k->Inv i x->bM (bz b k x) Q:=by
  intro k;induction k with
  |zero=>omega
  |succ k ih=>
   intro i x h p g;rcases XI h with a | rfl
   ·exact hs i x _ a g λd e=>ih (i+1) d a (by omega) e
   ·exact j x _ g
 grind
end
section
variable{R α:Type}{b:(Int->Option R)->Int->Option R}{Q:R->Prop}
theorem vk (l:List α) (A:Nat→α→Prop)
  (hs:∀i (f:Int→Option R) (h:i<l.length),(∀j (a:j<l.length),j<i→A j l[j])→(A i l[i]→bM (f ((i+1:Nat):Int)) Q)→bM (b f (i:Int)) Q)
  (k:∀f,(∀j (a:j<l.length),A j l[j])→bM (b f (l.length:Int)) Q) {N:Nat} (d:l.length<N):bM (bz b N 0) Q:=
 jb l.length (fun i x=>x=(i:Int)∧∀j (a:j<l.length),j<i→A j l[j])
  (fun i x f m ⟨e,g⟩ n=>by
   grind)
  (fun x f ⟨e,g⟩=>by simp_all) ⟨rfl,fun j a h=>absurd h (by omega)⟩ d
end
theorem CW{α:Type}{l:List α}{A:α->Prop}(h:∀j (d:j<l.length),A l[j]):∀a∈l,A a:=λa e=>by grind [List.getElem_of_mem]
theorem Oh{α:Type}{b:(Int->Option Bool)->Int->Option Bool}(l:List α)(A:α->Prop)(P:Prop)(j:P->∀a∈l,A a)
  (hs:∀(i:Nat)(f:Int->Option Bool)(h:i<l.length)(Q:Bool->Prop),(A l[i]->bM (f ((i+1:Nat):Int)) Q)->(¬A l[i]->Q false)->bM (b f (i:Int)) Q)
  (d:∀f,(∀a∈l,A a)->fH (b f (l.length:Int)) P) {N:Nat} (e:l.length<N):fH (bz b N 0) P:=
 vk l (λ_ a => A a) (λi f h _ g => hs i f h _ g λk => by
   grind)
  (λf h=>d f (CW h)) e
structure lq (s:bm):Prop where
 nodes:s.am.length<=40
 parts:s.aH.length<=20
 gX:s.aj.length<=20
 part:∀p∈s.aH,p.length<=40
 queue:∀q∈s.aj,q.aU.length<=40
theorem few07(s:bm):bM (ze1 5000 s) λr=>r=true->lq s:=by
 simp only[ze1,bp,aZ];refine ⟨by simp,λh=>?_⟩;simp only[gq,br,not_or,Int.not_lt] at h;obtain ⟨⟨g,j⟩,k⟩:=h;refine vk s.aH (λ_ q=>q.length<=40) (λi f h _ a=>?_) (λf d=>?_) (by omega)
 ·simp only[cK h,if_true,bV h,Option.bind_some,bS (show i<1000000 by omega),bp,aZ,br]
  grind
 ·simp only[eC,bT,cn];refine vk s.aj (λ_ q=>q.aU.length<=40) (λi f h _ a=>?_) (λf e=>?_) (by omega)
  ·simp only[cK h,if_true,bV h,Option.bind_some,bS (show i<1000000 by omega),bp,aZ,br]
   grind
  ·simp only[eC,bT,cn,aZ];exact λ_=>⟨by omega,by omega,by omega,CW d,CW e⟩
theorem few17(l:List aK):bM (ze2 5000 l) λr=>r=true->l.length<=30/\∀j∈l,j.aF.length<=10:=by
 simp only[ze2,bp,aZ];refine ⟨by simp,λh=>?_⟩;simp only[br] at h;refine vk l (λ_ q=>q.aF.length<=10) (λi f h _ d=>?_) (λf a=>?_) (by omega)
 ·simp only[cK h,if_true,bV h,Option.bind_some,bS (show i<1000000 by omega),bp,aZ,br]
  grind
 ·simp only[eC,bT,cn,aZ];exact λ_=>⟨by omega,CW a⟩
structure lm (s:bm) (st:cf):Prop where
 spec:lq s
 bg:st.ai.length<=300
 after:∀j∈st.ai,j.aF.length<=10
 b_:st.ah.length<=300
 cB:st.ay.length<=20
 use:st.gF.length<=20
 stamps:st.aA.aj.length<=20
 shares:∀a∈st.ah,a.ae.length<=40
theorem lm.sh{s:bm}{st:cf}(h:lm s st):∀a∈st.ah,a.ae.length<=300:=λa i=>lQ (h.shares a i) (by decide)
theorem few23(s:bm)(st:cf):bM (zcG 5000 s st) λr=>r=true->lm s st:=by
 simp only[zcG,dW];refine (few07 s).bind λr d=>?_;simp only[if_true,aZ,bp];refine ⟨by simp,λh=>?_⟩;refine (few17 st.ai).bind λk a=>?_;simp only[iF,oE] at h;have g:=d h;simp only[bp,aZ];refine ⟨by simp,λh=>?_⟩;simp only[gq,br,not_or,Int.not_lt,iF,oE] at h;obtain ⟨⟨⟨⟨h,l⟩,m⟩,n⟩,p⟩:=h;have e:=a h;refine vk st.ah (λ_ q=>q.ae.length<=40) (λi f h _ d=>?_) (λf j=>?_) (by omega)
 ·simp only[cK h,if_true,bV h,Option.bind_some,bS (show i<1000000 by omega),bp,aZ,br]
  grind
 ·simp only[eC,bT,cn,aZ];exact λ_=>⟨g,lQ e.1 (by decide),e.2,by omega,by omega,by omega,by omega,CW j⟩
def Oi(lo a x:Int):Bool:=decide (lo<=x)&&decide (x<=a)
structure aM (r:aE):Prop where
 FY:0<=r.bL/\r.bL<=1048576
 mem:0<=r.Mem/\r.Mem<=1048576
 IW:0<=r.bO/\r.bO<=1048576
 Ky:0<=r.bR/\r.bR<=1048576
theorem vD(r:aE):fH (V_ 5000 r) (aM r):=by simp only[V_,zb8,aZ,Option.bind_some,bp,bH,br,bT,FE,fH];refine ⟨λa=>⟨λd=>⟨λe=>⟨λf=>⟨a,d,e,f⟩,λh=>h.Ky⟩,λe h=>e h.IW⟩,λd h=>d h.mem⟩,λa h=>a h.FY⟩
theorem at4x0{a b c d:Int}:aB [a,b,c,d] 0=some a:=rfl
theorem at4x1{a b c d:Int}:aB [a,b,c,d] 1=some b:=rfl
theorem at4x2{a b c d:Int}:aB [a,b,c,d] 2=some c:=rfl
theorem at4x3{a b c d:Int}:aB [a,b,c,d] 3=some d:=rfl
theorem lpN(l:List Int)(lo d n:Int)(e:(l.length:Int)=n){E:Option Bool}{Q:Bool->Prop}(k:¬(∀a∈l,lo<=a/\a<=d)->Q false)(g:(∀a∈l,lo<=a/\a<=d)->bM E Q)(j:l.length<5000) :
  bM (bz (λ(f:Int->Option Bool) (x:Int)=>if (decide (x<n))=true then (aB l x).bind λy=>if ((decide (y<lo)) || (decide (y > d)))=true then some false else f (i64.wrap (x+1)) else E) 5000 0) Q:=by
 subst e;refine vk l (λ_ a=>lo<=a/\a<=d) (λi f h _ m=>?_) (λf h=>?_) j
 ·simp only[cK h,if_true,bV h,Option.bind_some,bS (show i<1000000 by omega),bp,aZ,gq,br]
  grind
 ·simp only[eC,bT,cn];exact g (CW h)
theorem zM{a b c d lo e:Int}:(∀x∈[a,b,c,d],lo<=x/\x<=e)↔(lo<=a/\a<=e)/\(lo<=b/\b<=e)/\(lo<=c/\c<=e)/\(lo<=d/\d<=e):=by simp
theorem Hf{a b c lo d:Int}:(∀x∈[a,b,c],lo<=x/\x<=d)↔(lo<=a/\a<=d)/\(lo<=b/\b<=d)/\(lo<=c/\c<=d):=by simp
theorem TR(r:aE):fH (Le 5000 r) (aM r):=by
 simp only[Le,fU,Option.bind_some];refine lpN [r.bL,r.Mem,r.bO,r.bR] 0 1048576 4 rfl (λh=>?_) (λh=>?_) (by simp)
 ·simp only[bT,FE];exact λv=>h (zM.2 ⟨v.FY,v.mem,v.IW,v.Ky⟩)
 ·rw[aZ];obtain ⟨a,d,e,f⟩:=zM.1 h;exact ⟨λ_=>⟨a,d,e,f⟩,λ_=>rfl⟩
def bU:aE:={ bL:=0,Mem:=0,bO:=0,bR:=0 }
theorem gP{a b:aE}:aE.beq a b=true↔a=b:=by obtain ⟨d,e,f,g⟩:=a;obtain ⟨h,i,j,k⟩:=b;simp[aE.beq]
end Go.Plain
end
section
namespace Go.Plain
open Go.Abs
def KA(l:List Int):Nat->Int
 |0=>-1
 |i+1=>l[i]?.getD 0
theorem qt{l:List Int}{i:Nat}(h:i<l.length):KA l (i+1)=l[i]:=by simp[KA,h]
def nE(l:List Int)(n:Int):Prop:=∀i (h:i<l.length),KA l i<l[i]/\l[i]<n
theorem nE.nn{l:List Int}{n:Int}(h:∀i (j:i<l.length),KA l i<l[i]):∀i (j:i<l.length),0<=l[i]:=by
 intro i;induction i with
 |zero=>grind [KA]
 |succ i ih=>grind [qt]
theorem nE.mem{l:List Int}{n:Int}(h:nE l n):∀x∈l,0<=x/\x<n:=λx s=>by obtain ⟨i,j,rfl⟩:=ky s;exact ⟨nE.nn (n:=n) (λi j=>(h i j).1) i j,(h i j).2⟩
theorem ascending(l:List Int)(n:Int)(q:l.length<99):fH (zeM 5000 l n) (nE l n):=by
 simp only[zeM];refine jb l.length (λi x=>x=(KA l i,(i:Int))/\∀j (e:j<l.length),j<i->KA l j<l[j]/\l[j]<n) (λi x f a d k=>?_) (λx f d=>?_) ⟨rfl,λj e h=>by omega⟩ (by omega)
 ·obtain ⟨rfl,g⟩:=d;simp only[cK a,if_true,bV a,Option.bind_some,bS (show i<1000000 by omega),bp,aZ,gq,br];refine ⟨λh=>?_,λh=>k _ ⟨by rw[qt a],λj e m=>?_⟩⟩
  ·simp only[bT,FE];intro p;have:=p i a;omega
  grind
 ·obtain ⟨rfl,g⟩:=d;simp only[eC,bT,cn,aZ,OY];exact λi a=>g i a a
theorem DG(l:List Int)(n:Int)(q:l.length<99):fH (zcx 5000 l n) (nE l n):=by
 simp only[zcx,dW];refine vk l (λi a=>KA l i<a/\a<n) (λi f h r e=>?_) (λf h=>?_) (by omega)
 ·have hd:decide ((i:Int) > 0)=decide (0<i):=by simp
  simp only[cK h,if_true,bV h,Option.bind_some,bS (show i<1000000 by omega),bp,aZ,br,hd,bT,cn];have bad:¬(KA l i<l[i]/\l[i]<n)->(False↔nE l n):=λg=>by simp only[FE];exact λd=>g (d i h)
  refine ⟨λj=>?_,λj=>⟨λk=>bad (by omega),λk=>⟨λp=>?_,λp=>?_⟩⟩⟩
  ·simp only[FE];intro d;have:=(d.mem _ (bC h)).1;omega
  ·obtain ⟨m,rfl⟩:∃m,i=m+1:=⟨i-1,by omega⟩;rw[wp1 (show m+1<1000000 by omega),bV (show m<l.length by omega)];rw[qt (by omega)] at bad e;simp only[Option.bind_some,bp,br,aZ,bT]
   simp_all
  grind [KA]
 ·simp only[eC,bT,cn,aZ,OY];exact h
structure oX (s:bm):Prop where
 lo:1<=s.am.length
 hi:s.am.length<=16
 ok:∀r∈s.am,aM r
theorem QK(s:bm):fH (fE 5000 s) (oX s):=by
 simp only[fE,bp,aZ];refine ⟨λh=>?_,λh=>?_⟩
 ·simp only[gq,br] at h;simp only[bT,FE]
  grind [oX.lo,oX.hi]
 ·simp only[gq,br,not_or] at h;refine Oh s.am aM _ (λk=>k.ok) (λi f a Q e g=>?_) (λf d=>?_) (by omega)
  ·simp only[cK a,if_true,bV a,Option.bind_some,bS (show i<1000000 by omega)];refine (TR _).bind λr j=>?_;simp only[bp,aZ,iF,oE]
   grind
  ·simp only[eC,bT,cn,aZ,OY];exact ⟨by omega,by omega,d⟩
theorem Vl(s:bm)(hs:lq s):fH (zcI 5000 s) (oX s):=by
 have:=hs.nodes;simp only[zcI];refine Oh s.am aM _ (λk=>k.ok) (λi f a Q e g=>?_) (λf d=>?_) (by omega)
 ·simp only[cK a,if_true,bV a,Option.bind_some,bS (show i<1000000 by omega)];refine (vD _).bind λr j=>?_;simp only[bp,aZ,iF,oE]
  grind
 ·simp only[eC,bT,cn,AD,Option.bind_some,aZ,bH,br];exact ⟨λh=>⟨by omega,by omega,d⟩,λh=>by grind [oX.lo,oX.hi]⟩
structure oM (s:bm):Prop where
 lo:1<=s.aH.length
 hi:s.aH.length<=8
 ok:∀p∈s.aH,1<=p.length/\nE p s.am.length
theorem OL(s:bm)(hs:lq s):fH (fC 5000 s) (oM s):=by
 simp only[fC,dW,bp,aZ];refine ⟨λh=>?_,λh=>?_⟩
 ·simp only[gq,br] at h;simp only[bT,FE]
  grind [oM.lo,oM.hi]
 ·simp only[gq,br,not_or] at h;refine Oh s.aH (λp=>1<=p.length/\nE p s.am.length) _ (λk=>k.ok) (λi f a Q j d=>?_) (λf g=>?_) (by omega)
  ·have:=hs.part _ (bC a);simp only[cK a,if_true,bV a,Option.bind_some,bS (show i<1000000 by omega),bp,aZ,br];refine ⟨λe=>d (by omega),λe=>?_⟩;refine (ascending _ _ (by omega)).bind λr l=>?_;simp only[bp,aZ,iF,oE]
   grind
  ·simp only[eC,bT,cn,aZ,OY];exact ⟨by omega,by omega,g⟩
theorem Vn(s:bm)(hs:lq s):fH (zcN 5000 s) (oM s):=by
 have:=hs.parts;simp only[zcN,dW];refine Oh s.aH (λp=>1<=p.length/\nE p s.am.length) _ (λk=>k.ok) (λi f a Q j d=>?_) (λf g=>?_) (by omega)
 ·have:=hs.part _ (bC a);simp only[cK a,if_true,bV a,Option.bind_some,bS (show i<1000000 by omega),bp,aZ,br];refine ⟨λe=>d (by omega),λe=>?_⟩;refine (DG _ _ (by omega)).bind λr l=>?_;simp only[bp,aZ,iF,oE]
  grind
 ·simp only[eC,bT,cn,AD,Option.bind_some,aZ,bH,br];exact ⟨λh=>⟨by omega,by omega,g⟩,λh=>by grind [oM.lo,oM.hi]⟩
structure Ae (s:bm) (q:Ce):Prop where
 part:0<=q.Part/\q.Part<s.aH.length
 zF:nE q.aU s.aU
 bg:1<=q.jG/\q.jG<=256
 run:1<=q.jp/\q.jp<=256
 user:1<=q.eV/\q.eV<=256
 qos:0<=q.gy/\q.gy<=100
structure qC (s:bm):Prop where
 lo:1<=s.aj.length
 hi:s.aj.length<=8
 ok:∀q∈s.aj,Ae s q
theorem MV(s:bm)(hs:lq s):fH (zeZ 5000 s) (qC s):=by
 simp only[zeZ,dW,bp,aZ];refine ⟨λh=>?_,λh=>?_⟩
 ·simp only[gq,br] at h;simp only[bT,FE]
  grind [qC.lo,qC.hi]
 ·simp only[gq,br,not_or] at h;refine Oh s.aj (Ae s) _ (λk=>k.ok) (λi f a Q l d=>?_) (λf m=>?_) (by omega)
  ·have:=hs.queue _ (bC a);simp only[cK a,if_true,bV a,Option.bind_some,bS (show i<1000000 by omega),bT,cn];rw[bp];refine ⟨λe=>?_,λe=>?_⟩
   ·simp only[gq,br] at e;rw[aZ];exact d λk=>by have:=k.part;omega
   ·simp only[gq,br,not_or] at e;refine (ascending _ _ (by omega)).bind λr n=>?_;rw[bp];refine ⟨λg=>?_,λg=>?_⟩
    ·grind [aZ,Ae.zF]
    ·simp only[iF,oE] at g;refine lpN [_,_,_] 1 256 3 rfl (λp=>d λk=>p (Hf.2 ⟨k.bg,k.run,k.user⟩)) (λq=>?_) (by simp);obtain ⟨t,u,v⟩:=Hf.1 q;rw[bp];refine ⟨λj=>?_,λj=>?_⟩
     ·simp only[gq,br] at j;rw[aZ];exact d λk=>by have:=k.qos;omega
     ·simp only[gq,br,not_or] at j;exact l ⟨by omega,n.1 g,t,u,v,by omega⟩
  ·simp only[eC,bT,cn,aZ,OY];exact ⟨by omega,by omega,m⟩
theorem Pt(s:bm)(hs:lq s):fH (zcv 5000 s) (qC s):=by
 have:=hs.gX;simp only[zcv,dW];refine Oh s.aj (Ae s) _ (λk=>k.ok) (λi f d Q j a=>?_) (λf l=>?_) (by omega)
 ·have:=hs.queue _ (bC d);simp only[cK d,if_true,bV d,Option.bind_some,bS (show i<1000000 by omega),bT,cn];rw[bp];refine ⟨λe=>?_,λe=>?_⟩
  ·simp only[gq,br] at e;rw[aZ];exact a λk=>by have:=k.part;omega
  ·simp only[gq,br,not_or] at e;refine (DG _ _ (by omega)).bind λr m=>?_;simp only[AD,Option.bind_some,bp,aZ,iF,oE,bH,br,yB0,yBf];refine ⟨λg=>a λk=>by grind [Ae.zF],λg=>⟨λn=>a λk=>by have:=k.bg;omega,λn=>⟨λp=>a λk=>by have:=k.run;omega,λp=>⟨λq=>a λk=>by have:=k.user;omega,λq=>⟨λt=>a λk=>by have:=k.qos;omega,λt=>?_⟩⟩⟩⟩⟩;exact j ⟨by omega,m.1 g,by omega,by omega,by omega,by omega⟩
 ·simp only[eC,bT,cn,AD,Option.bind_some,aZ,bH,br];exact ⟨λh=>⟨by omega,by omega,l⟩,λh=>by have:=h.lo;have:=h.hi;omega⟩
structure AI (w:Kw):Prop where
 age:0<=w.nV/\w.nV<=1000
 size:0<=w.cZ/\w.cZ<=1000
 qos:0<=w.gy/\w.gy<=1000
 share:0<=w.bZ/\w.bZ<=1000
theorem Il(w:Kw):fH (zen 5000 w) (AI w):=by
 simp only[zen];refine lpN [w.nV,w.cZ,w.gy,w.bZ] 0 1000 4 rfl (λh=>?_) (λh=>?_) (by simp)
 ·simp only[bT,FE];exact λv=>h (zM.2 ⟨v.age,v.size,v.qos,v.share⟩)
 ·rw[aZ];obtain ⟨a,d,e,f⟩:=zM.1 h;exact ⟨λ_=>⟨a,d,e,f⟩,λ_=>rfl⟩
structure bn (s:bm):Prop where
 nodes:oX s
 parts:oM s
 zF:1<=s.aU/\s.aU<=8
 gX:qC s
 weights:AI s.aq
 decay:1<=s.cr/\s.cr<=16
 mode:s.Mode=1∨s.Mode=2
 bg:1<=s.ai/\s.ai<=256
 ids:1<=s.lc/\s.lc<=1048576
 ua:1<=s.aI/\s.aI<=65536
 VK:0<=s.bx/\s.bx<=65536
 keep:1<=s.dw/\s.dw<=16
 Oi:1<=s.In/\s.In<=8
 out:1<=s.Out/\s.Out<=16
 cache:0<=s.cq/\s.cq<=16
theorem qW(s:bm)(hs:lq s):fH (PM 5000 s) (bn s):=by
 simp only[PM,AT];obtain ⟨N,z,m⟩:=QK s;obtain ⟨O,A,n⟩:=OL s hs;obtain ⟨S,E,q⟩:=MV s hs;obtain ⟨U,F,r⟩:=Il s.aq;simp only[z,A,E,F,Option.bind_some];have T:∀(x:ByteArray),x.toList≠[]->(¬bn s)->bM ((some x).bind λa=>some (a.toList == (⟨#[]⟩:ByteArray).toList)) λb=>b=true↔bn s:=λx G W=>by
  rw[aD,aZ]
  simp_all
 have step:∀(c:Bool)(x:ByteArray)(o:Option ByteArray),x.toList.isEmpty=false->(c=false->¬bn s)->(c=true->bM (o.bind λa=>some (a.toList == (⟨#[]⟩:ByteArray).toList)) λb=>b=true↔bn s) ->
   bM ((if (!c)=true then some x else o).bind λa=>some (a.toList == (⟨#[]⟩:ByteArray).toList)) λb=>b=true↔bn s:=λc x o G m n=>by
  grind
 have nb:∀{b:Bool}{p:Prop},(b=true↔p)->b=false->¬p:=λh e Y=>by simp_all
 refine step _ _ _ (by kernel_rfl) (λe k=>nb m e k.nodes) λc1=>?_;refine step _ _ _ (by kernel_rfl) (λe k=>nb n e k.parts) λK=>?_;refine step _ _ _ (by kernel_rfl) (λe k=>by grind [bn.zF]) λt=>?_;refine step _ _ _ (by kernel_rfl) (λe k=>nb q e k.gX) λL=>?_;refine step _ _ _ (by kernel_rfl) (λe k=>nb r e k.weights) λM=>?_;refine step _ _ _ (by kernel_rfl) (λe k=>by grind [bn.decay]) λu=>?_;refine step _ _ _ (by kernel_rfl) (λe k=>by grind [bn.mode]) λv=>?_;refine step _ _ _ (by kernel_rfl) (λe k=>by grind [bn.bg]) λw=>?_;refine step _ _ _ (by kernel_rfl) (λe k=>by grind [bn.ids]) λy=>?_;refine step _ _ _ (by kernel_rfl) (λe k=>by grind [bn.ua]) λd=>?_;refine step _ _ _ (by kernel_rfl) (λe k=>by grind [bn.VK]) λf=>?_;refine step _ _ _ (by kernel_rfl) (λe k=>by grind [bn.keep]) λg=>?_;refine step _ _ _ (by kernel_rfl) (λe k=>by grind [bn.Oi]) λi=>?_;refine step _ _ _ (by kernel_rfl) (λe k=>by grind [bn.out]) λj=>?_;refine step _ _ _ (by kernel_rfl) (λe k=>by grind [bn.cache]) λl=>?_;rw[aD,aZ];simp only[yBV,OY];simp only[bH,gq,br,nK] at t u v w y d f g i j l;exact ⟨m.1 c1,n.1 K,t,q.1 L,r.1 M,u,v,w,y,d,f,g,i,j,l⟩
theorem LV{n:Nat}(hN:15<n){s:bm}{g j m:Bool}(T:zcI n s=some g)(F:g=true↔oX s)(U:zcN n s=some j)(G:j=true↔oM s)(W:zcv n s=some m)(K:m=true↔qC s):fH (zcK n s) (bn s):=by
 simp only[zcK,gR,T,U,W,Option.bind_some,AD,dW];have d:∀w:Bool,(w=true↔AI s.aq)->∀(L:List Bool)(M:List ByteArray),L=[g,j,decide (1<=s.aU)&&decide (s.aU<=8),m,w,decide (1<=s.cr)&&decide (s.cr<=16),decide (1<=s.Mode)&&decide (s.Mode<=2),decide (1<=s.ai)&&decide (s.ai<=256),decide (1<=s.lc)&&decide (s.lc<=1048576),decide (1<=s.aI)&&decide (s.aI<=65536),decide (0<=s.bx)&&decide (s.bx<=65536),decide (1<=s.dw)&&decide (s.dw<=16),decide (1<=s.In)&&decide (s.In<=8),decide (1<=s.Out)&&decide (s.Out<=16),decide (0<=s.cq)&&decide (s.cq<=16)] ->
   (∀x∈M,x.toList≠[])->M.length=15 ->
   bM ((bz (λ(p:Int->Option ByteArray) (e:Int)=>if (decide (e<15))=true then (aB L e).bind λq=>if (!q)=true then (aB M e).bind λr=>some r else p (i64.wrap (e+1)) else some (⟨#[]⟩:ByteArray)) n 0).bind λY=>some (Y.toList == (⟨#[]⟩:ByteArray).toList)) λb=>b=true↔bn s:=by
  intro w N L M Z hM O;have S:L.length=15:=by simp_all
  have t:(15:Int)=(L.length:Int):=by omega
  have all:(∀x∈L,x=true)↔bn s:=by
   rw[Z];simp only[gn,Ly,Mg,forall_eq_or_imp,forall_eq,bH,br];constructor
   ·rintro ⟨c1,c2,c3,c4,c5,c6,c7,c8,c9,u,v,y,z,A,E⟩;exact ⟨F.1 c1,G.1 c2,c3,K.1 c4,N.1 c5,c6,by omega,c8,c9,u,v,y,z,A,E⟩
   ·intro k;have:=k.mode;exact ⟨F.2 k.nodes,G.2 k.parts,k.zF,K.2 k.gX,N.2 k.weights,k.decay,by omega,k.bg,k.ids,k.ua,k.VK,k.keep,k.Oi,k.out,k.cache⟩
  rw[jV,t];have nil:(⟨#[]⟩:ByteArray).toList=[]:=by kernel_rfl
  refine vk L (λ_ x=>x=true) (λi f h _ hr=>?_) (λf hA=>?_) (by omega)
  ·simp only[cK h,if_true,bV h,bV (l:=M) (show i<M.length by omega),Option.bind_some,bS (show i<1000000 by omega),bp,aZ,iF,oE,nil,nK] at hr ⊢
   grind [List.getElem_mem]
  ·simp only[eC,bT,cn,aZ,yBV,OY];exact all.1 (CW hA)
 have a:∀x∈([(⟨#[78,111,100,101,115]⟩:ByteArray),(⟨#[80,97,114,116,115]⟩:ByteArray),(⟨#[85,115,101,114,115]⟩:ByteArray),(⟨#[81,117,101,117,101,115]⟩:ByteArray),(⟨#[87,101,105,103,104,116,115]⟩:ByteArray),(⟨#[68,101,99,97,121]⟩:ByteArray),(⟨#[77,111,100,101]⟩:ByteArray),(⟨#[74,111,98,115]⟩:ByteArray),(⟨#[73,100,115]⟩:ByteArray),(⟨#[86,101,114,115,105,111,110,115]⟩:ByteArray),(⟨#[76,105,110,103,101,114]⟩:ByteArray),(⟨#[75,101,101,112]⟩:ByteArray),(⟨#[73,110]⟩:ByteArray),(⟨#[79,117,116]⟩:ByteArray),(⟨#[67,97,99,104,101]⟩:ByteArray)]:List ByteArray),x.toList≠[]:=by simp_all
 split
 ·rename_i w1;split
  ·rename_i w2;split
   ·rename_i w3;refine d _ ?_ _ _ rfl a rfl;simp only[bH,br] at w1 w2 w3 ⊢;exact ⟨λw4=>⟨w1,w2,w3,w4⟩,λk=>k.share⟩
   ·rename_i w3;refine d _ ?_ _ _ rfl a rfl;simp only[bH,br] at w3;simp only[bT,FE];exact λk=>w3 k.qos
  ·rename_i w2;refine d _ ?_ _ _ rfl a rfl;simp only[bH,br] at w2;simp only[bT,FE];exact λk=>w2 k.size
 ·rename_i w1;refine d _ ?_ _ _ rfl a rfl;simp only[bH,br] at w1;simp only[bT,FE];exact λk=>w1 k.age
theorem Tm(s:bm)(hs:lq s):fH (zcK 5000 s) (bn s):=by
 obtain ⟨a,d,e⟩:=Vl s hs;obtain ⟨f,g,h⟩:=Vn s hs;obtain ⟨i,j,k⟩:=Pt s hs
 grind [LV]
end Go.Plain
end
section
namespace Go.Plain
open Go.Abs
structure BC (L:List (Int×Int)) (k:Int):Prop where
 lo:0<=k
 hi:k<=64
 fit:∀p∈L,k * p.2<=p.1
 max:k<64->∃p∈L,p.1<(k+1) * p.2
theorem BC.Bl{L:List (Int×Int)}{k i:Int}(u:∀p∈L,0<=p.2)(h:BC L k)(E:BC L i):k=i:=by
 have x:∀{a b:Int},BC L a->BC L b->¬a<b:=λ{a b} z j A=>by obtain ⟨p,s,F⟩:=z.max (by have:=j.hi;omega);have G:=j.fit p s;have K:(a+1) * p.2<=b * p.2:=yAQ (by omega) (u p s);omega
 grind
theorem BC.nil:BC [] 64:=⟨by omega,by omega,by simp,by simp⟩
def qm(n a b:Int):Int:=if b > 0 then (if a.tdiv b<n then a.tdiv b else n) else n
theorem BC.step{L:List (Int×Int)}{k a b:Int}(h:BC L k)(z:∀p∈L,0<=p.2)(s:0<=a)(K:0<=b):BC (L++[(a,b)]) (qm k a b):=by
 unfold qm;have u:=h.lo;have x:=h.hi;split
 ·rename_i j;rw[Int.tdiv_eq_ediv_of_nonneg s];have M:a / b * b<=a:=Int.ediv_mul_le a (by omega);have A:a<(a / b+1) * b:=Int.lt_ediv_add_one_mul_self a j;have E:0<=a / b:=Int.ediv_nonneg s (by omega);split
  ·rename_i F;refine ⟨E,by omega,λp i=>?_,λ_=>⟨(a,b),by simp,A⟩⟩;rcases nj.1 i with i | i
   ·have:=h.fit p i;have:a / b * p.2<=k * p.2:=yAQ (by omega) (z p i);omega
   simp_all
  ·rename_i G;refine ⟨u,x,λp i=>?_,λhk=>?_⟩
   ·rcases nj.1 i with i | i
    ·exact h.fit p i
    ·simp only[AQ] at i;subst i;have:k * b<=a / b * b:=yAQ (by omega) (by omega)
     grind
   ·obtain ⟨p,i,q⟩:=h.max hk
    grind
 ·rename_i j;have:b=0:=by omega
  subst this;refine ⟨u,x,λp i=>?_,λhk=>?_⟩
  ·rcases nj.1 i with i | i
   ·exact h.fit p i
   simp_all
  ·obtain ⟨p,i,q⟩:=h.max hk
   grind
theorem Qd{n a b:Int}(h:b > 0):qm n a b=if a.tdiv b<n then a.tdiv b else n:=by unfold qm;omega
theorem QD{n a b:Int}(h:¬b > 0):qm n a b=n:=by unfold qm;omega
def FJ(a b:aE):List (Int×Int):=[(a.bL,b.bL),(a.Mem,b.Mem),(a.bO,b.bO),(a.bR,b.bR)]
def dG(a b:aE):Int:=qm (qm (qm (qm 64 a.bL b.bL) a.Mem b.Mem) a.bO b.bO) a.bR b.bR
theorem vK{a b:aE}(e:aM a)(d:aM b):BC (FJ a b) (dG a b):=by have f:=BC.nil;have g:=f.step (by simp) e.FY.1 d.FY.1;have h:=g.step (by simp;exact d.FY.1) e.mem.1 d.mem.1;have i:=h.step (by simp;exact ⟨d.FY.1,d.mem.1⟩) e.IW.1 d.IW.1;have j:=i.step (by simp;exact ⟨d.FY.1,d.mem.1,d.IW.1⟩) e.Ky.1 d.Ky.1;exact j
theorem w1:i64.wrap (0+1)=1:=rfl
theorem w2:i64.wrap (1+1)=2:=rfl
theorem w3:i64.wrap (2+1)=3:=rfl
theorem w4:i64.wrap (3+1)=4:=rfl
theorem wq{a b:Int}(d:0<=a/\a<=1048576)(e:0<b):Mv .i64 a b=some (a.tdiv b):=by
 unfold Mv;rw[if_neg (by omega)];have f:0<=a / b:=Int.ediv_nonneg d.1 (by omega);have g:a / b<=a:=Int.ediv_le_self b d.1
 grind [wr]
def stc(a b:aE):Nat->Int
 |0=>64
 |1=>qm 64 a.bL b.bL
 |2=>qm (qm 64 a.bL b.bL) a.Mem b.Mem
 |3=>qm (qm (qm 64 a.bL b.bL) a.Mem b.Mem) a.bO b.bO
 |_=>dG a b
theorem count{a b:aE}(g:aM a)(h:aM b)(q:b≠bU):l_ 5000 a b=some (dG a b):=by
 obtain ⟨r,j,k⟩:=TR a;obtain ⟨s,l,m⟩:=TR b;have n:=k.2 g;have p:=m.2 h;subst n p;have d:aE.beq b bU=false:=by grind [gP]
 simp only[l_,dW,j,l,Option.bind_some,Om,bT,cn,yCn,fU];change (if aE.beq b bU=true then some 0 else _)=_;rw[d];simp only[bT,cn];refine bM.eq (jb 4 (λi x=>x=(stc a b i,(i:Int))) (λi x f t e u=>?_) (λx f e=>?_) rfl (by omega))
 ·subst e;rcases (show i=0∨i=1∨i=2∨i=3 by omega) with rfl | rfl | rfl | rfl
  ·rw[show ((0:Nat):Int)=0 from rfl];simp only[show decide ((0:Int)<4)=true from rfl,if_true,at4x0,Option.bind_some,w1,bp,br]
   grind [stc,qm,wq,aM.FY]
  ·rw[show ((1:Nat):Int)=1 from rfl];simp only[show decide ((1:Int)<4)=true from rfl,if_true,at4x1,Option.bind_some,w2,bp,br]
   grind [stc,QD,wq,aM.mem,Qd]
  ·rw[show ((2:Nat):Int)=2 from rfl];simp only[show decide ((2:Int)<4)=true from rfl,if_true,at4x2,Option.bind_some,w3,bp,br]
   grind [stc,QD,wq,aM.IW,Qd]
  ·rw[show ((3:Nat):Int)=3 from rfl];simp only[show decide ((3:Int)<4)=true from rfl,if_true,at4x3,Option.bind_some,w4,bp,br]
   grind [stc,dG,QD,wq,aM.Ky,Qd]
 ·subst e;simp only[show decide (((4:Nat):Int)<4)=false from rfl,bT,cn,aZ];rfl
theorem GQ{b:aE}(a:aM b):Oj 5000 b bU=some (decide (b=bU)):=by
 simp only[Oj,au];have:=a.FY;have:=a.mem;have:=a.IW;have:=a.Ky;rw[Bool.eq_iff_iff];simp only[bH,br];obtain ⟨d,e,f,g⟩:=b
 grind [bU]
theorem Bz{a b:aE}(j:aM a)(e:aM b)(z:b≠bU):zbt 5000 a b=some (dG a b):=by
 obtain ⟨W,A,u⟩:=vD a;obtain ⟨Y,E,v⟩:=vD b;have F:=u.2 j;have G:=v.2 e;subst F G;simp only[zbt,dW,A,E,Option.bind_some,Om,bT,cn];have K:Oj 5000 b ({ bL:=0,Mem:=0,bO:=0,bR:=0 }:aE)=some (decide (b=bU)):=GQ e;rw[K];simp only[Option.bind_some,z,decide_false,bT,cn];have Z:=j.FY;have hm:=j.mem;have hg:=j.IW;have hl:=j.Ky;have m:=e.FY;have n:=e.mem;have q:=e.IW;have r:=e.Ky;have L:∀p∈FJ a b,0<=p.2:=by
  intro p g;simp only[FJ,gn,Ly,Mg] at g;rcases g with rfl | rfl | rfl | rfl
  ·omega
  ·omega
  ·omega
  omega
 have done:∀k:Int,BC (FJ a b) k->k=dG a b:=λk hk=>hk.Bl L (vK j e);have d:∀{i:Nat}{y:Int},i<=65->0<=y/\y<=1048576->0<=(i:Int) * y/\(i:Int) * y<=68157440:=λ{i y} M w=>by have u:0<=(i:Int) * y:=yBL (by omega) w.1;have v:(i:Int) * y<=65 * y:=yAQ (by omega) w.1;omega
 refine bM.eq (jb 64 (λi x=>x=((i:Int),((i+1:Nat):Int) * b.bL,((i+1:Nat):Int) * b.Mem,((i+1:Nat):Int) * b.bO,((i+1:Nat):Int) * b.bR)/\∀p∈FJ a b,(i:Int) * p.2<=p.1) (λi x f M s N=>?_) (λx f s=>?_) ⟨by simp,λp g=>?_⟩ (by omega))
 ·obtain ⟨rfl,t⟩:=s;have m1:=d (i:=i+1) (by omega) m;have m2:=d (i:=i+1) (by omega) n;have m3:=d (i:=i+1) (by omega) q;have m4:=d (i:=i+1) (by omega) r;have l:∀y:Int,((i+1:Nat):Int) * y+y=((i+1+1:Nat):Int) * y:=λy=>by
   grind
  simp only[show decide ((i:Int)<64)=true by grind,if_true,Oj,Option.bind_some,Vt,bp,aZ,bH,br,bS (show i<1000000 by omega)];rw[wr (by omega) (by omega),wr (by omega) (by omega),wr (by omega) (by omega),wr (by omega) (by omega),l,l,l,l];refine ⟨λh=>N _ ⟨rfl,λp g=>?_⟩,λh=>done _ ⟨by omega,by omega,t,λ_=>?_⟩⟩
  ·simp only[FJ,gn,Ly,Mg] at g;rcases g with rfl | rfl | rfl | rfl
   ·simp_all
   ·simp_all
   ·simp_all
   simp_all
  ·rw[show ((i:Int)+1)=((i+1:Nat):Int) by omega];by_cases O:a.bL<((i+1:Nat):Int) * b.bL
   ·exact ⟨(a.bL,b.bL),by simp[FJ],O⟩
   by_cases S:a.Mem<((i+1:Nat):Int) * b.Mem
   ·exact ⟨(a.Mem,b.Mem),by simp[FJ],S⟩
   by_cases T:a.bO<((i+1:Nat):Int) * b.bO
   ·exact ⟨(a.bO,b.bO),by simp[FJ],T⟩
   by_cases U:a.bR<((i+1:Nat):Int) * b.bR
   ·exact ⟨(a.bR,b.bR),by simp[FJ],U⟩
   omega
 ·obtain ⟨rfl,t⟩:=s;simp only[show decide (((64:Nat):Int)<64)=false from rfl,bT,cn,aZ];exact done _ ⟨by omega,by omega,t,λh=>by omega⟩
 ·simp only[FJ,gn,Ly,Mg] at g
  grind
def Ch(s:bm)(l:List Int)(need:aE):Int:=(l.map λn=>dG ((s.am[n.toNat]?).getD bU) need).sum
theorem Pu{a b:aE}(d:aM a)(e:aM b):0<=dG a b/\dG a b<=64:=⟨(vK d e).lo,(vK d e).hi⟩
theorem GO{s:bm}{need:aE}(k:bn s)(p:aM need)(F:need≠bU){l:List Int}(G:l.length<=300)(r:nE l s.am.length)(C:aE->Option Int)(t:∀a,aM a->C a=some (dG a need)) :
  bz (λ(u:Int×Int->Option Int) (g:Int×Int)=>if (decide (g.2<(l.length:Int)))=true then (aB l g.2).bind λv=>(aB s.am v).bind λw=>(C w).bind λz=>u ((i64.wrap (g.1+z)),(i64.wrap (g.2+1))) else some g.1) 5000 (0,0)=some (Ch s l need):=by
 have A:∀(m:List Int),(∀x∈m,x∈l)->0<=Ch s m need/\Ch s m need<=64 * m.length:=by
  intro m;induction m with
  |nil=>grind [Ch]
  |cons x m ih=>
   intro h;have K:=ih λy E=>h y (pM _ E);have q:=r.mem x (h x (sq ..));have d:x.toNat<s.am.length:=by omega
   have:=Pu (k.nodes.ok (s.am[x.toNat]) (bC d)) p
   grind [Ch]
 refine bM.eq (jb l.length (λi x=>x=(Ch s (l.take i) need,(i:Int))) (λi x f j d n=>?_) (λx f d=>?_) (by grind) (by omega))
 ·subst d;have q:=r.mem l[i] (bC j);obtain ⟨d,e⟩:=Eh q.1 q.2;have c:=Pu (k.nodes.ok (s.am[l[i].toNat]) (bC d)) p;have b:=A (l.take i) λx d=>Qo d;have L:((l.take i).length:Int)<=300:=by grind
  simp only[cK j,if_true,bV j,Option.bind_some,e,t _ (k.nodes.ok _ (bC d)),bS (show i<1000000 by omega)];rw[wr (by omega) (by omega)];refine n _ ?_;congr 1;rw[GN j];simp only[Ch,yBH,sH,List.map_nil,List.sum_append,List.sum_cons,List.sum_nil,eI d,Option.getD_some];omega
 ·subst d;simp only[eC,bT,cn,aZ,xA]
theorem SZ{s:bm}(hs:lq s)(k:bn s){q m:Int}{need:aE}(d:aM need)(f:need≠bU):∃b,jh 5000 s q m need=some b/\zc3 5000 s q m need=some b:=by
 obtain ⟨v,h,r⟩:=qW s hs;have t:=r.2 k;subst t;by_cases j:0<=q/\q<s.aj.length/\1<=m
 ·obtain ⟨u,e⟩:=Eh j.1 j.2.1;have g:=k.gX.ok _ (bC u);obtain ⟨l,n⟩:=Eh g.part.1 g.part.2;have p:=k.parts.ok _ (bC l);have lp:=hs.part _ (bC l);refine ⟨decide (Ch s (s.aH[s.aj[q.toNat].Part.toNat]) need≥m),?_,?_⟩
  ·simp only[jh,h,Option.bind_some];rw[if_neg (by simp_all),e,aD];simp only[Be,h,Option.bind_some];rw[if_neg (by have:=g.part;simp;omega),n,aD];have:=GO k d f (lQ lp (by decide)) p.2 (λa=>l_ 5000 a need) (λa i=>count i d f);rw[this,aD]
  ·simp only[zc3];rw[if_pos (by simp_all),e,aD];simp only[gI];rw[if_neg (by have:=g.part;simp_all)];simp only[n,Option.bind_some];have:=GO k d f (lQ lp (by decide)) p.2 (λa=>zbt 5000 a need) (λa i=>Bz i d f);rw[this,aD]
 ·refine ⟨false,?_,?_⟩
  ·simp only[jh,h,Option.bind_some]
   grind
  ·simp only[zc3]
   grind
end Go.Plain
end
section
namespace Go.Plain
open Go.Abs
structure Al (j:aK):Prop where
 st:1<=j.State/\j.State<=6
 start:j.Start≠0->3<=j.State
 fin:j.End≠0->5<=j.State
 ok:j.Ok=true->j.State=4∨j.State=5
 kill:j.dt=true->j.State=4∨j.State=6
structure fj (j:aK):Prop where
 id:1<=j.Id/\j.Id<=1048576
 user:0<=j.cw/\j.cw<=7
 queue:0<=j.Queue/\j.Queue<=7
 many:1<=j.aL/\j.aL<=64
 need:aM j.az
 tX:j.az≠bU
 wall:1<=j.aW/\j.aW<=65536
 kJ:j.aF.length<=4
 after:∀d∈j.aF,1<=d.aV/\d.aV<=j.Id-1
 version:1<=j.aN/\j.aN<=281474976710656
 born:0<=j.dy/\j.dy<=1099511627776
 start:0<=j.Start/\j.Start<=1099511627776
 fin:0<=j.End/\j.End<=1099511627776
 arr:0<=j.Array/\j.Array<=j.Id
 state:Al j
theorem name_ok(x:Int):bM (vG 5000 x) λr=>r.toList=[]↔¬(1<=x/\x<=6):=by
 simp only[vG,bp,aZ,nK];have e:(⟨#[]⟩:ByteArray).toList=[]:=by kernel_rfl
 refine ⟨λh=>?_,λa=>⟨λh=>?_,λd=>⟨λh=>?_,λf=>⟨λh=>?_,λg=>⟨λh=>?_,λi=>⟨λh=>?_,λj=>?_⟩⟩⟩⟩⟩⟩
 ·simp_all
 ·simp_all
 ·simp_all
 ·simp_all
 ·simp_all
 ·simp_all
 grind
theorem Mq(j:aK):fH (ic 5000 j) (Al j):=by
 have e:(⟨#[]⟩:ByteArray).toList=[]:=by kernel_rfl
 simp only[ic,dW];refine (name_ok j.State).bind λr i=>?_;have no:∀{p:Prop},¬p->(false=true↔p):=λh=>by simp[h]
 rw[bp];refine ⟨λh=>?_,λh=>?_⟩
 ·rw[aZ];simp only[e,nK] at h;exact no λk=>i.1 h k.st
 ·simp only[e,nK] at h;have hs:1<=j.State/\j.State<=6:=yBU λl=>h (i.2 l);simp only[jt,VA,Option.bind_some,bT,cn];have fin:∀Q:Prop,(Q↔((j.Ok=true->j.State=4∨j.State=5)/\(j.dt=true->j.State=4∨j.State=6)->Al j)/\True)->True:=λ_ _=>trivial;have a:(j.Start≠0->3<=j.State)->(j.End≠0->5<=j.State)->bM (if ((j.Ok&&(j.State != 4))&&(j.State != 5))=true then some false else if ((j.dt&&(j.State != 4))&&(j.State != 6))=true then some false else some true) λb=>b=true↔Al j:=λf m=>by
   simp only[bp,aZ,bH,Ip,ne_eq];refine ⟨λq=>no λk=>by have:=k.ok q.1.1;omega,λn=>⟨λq=>no λk=>by have:=k.kill q.1.1;omega,λd=>?_⟩⟩;simp only[OY];refine ⟨hs,f,m,λo=>?_,λo=>?_⟩
   ·grind
   grind
  have mid:(j.Start≠0->3<=j.State)->bM (if (j.End != 0)=true then (if (!((j.State == 5) || (j.State == 6)))=true then some false else if ((j.Ok&&(j.State != 4))&&(j.State != 5))=true then some false else if ((j.dt&&(j.State != 4))&&(j.State != 6))=true then some false else some true) else if ((j.Ok&&(j.State != 4))&&(j.State != 5))=true then some false else if ((j.dt&&(j.State != 4))&&(j.State != 6))=true then some false else some true) λb=>b=true↔Al j:=λf=>by
   rw[bp];refine ⟨λq=>?_,λq=>a f λg=>absurd g (by simp_all)⟩;rw[bp];refine ⟨λd=>?_,λd=>a f λ_=>?_⟩
   ·rw[aZ];simp only[Ip,ne_eq,iF,Bool.or_eq_false_iff,beq_eq_false_iff_ne] at q d;exact no λk=>by have:=k.fin q;omega
   grind [Bool.or_eq_false_iff]
  rw[bp];refine ⟨λq=>?_,λq=>mid λg=>absurd g (by simp_all)⟩;rw[bp];refine ⟨λd=>?_,λd=>mid λ_=>?_⟩
  ·rw[aZ];simp only[Ip,ne_eq,gq,nK] at q d;exact no λk=>by have:=k.start q;omega
  grind
theorem AN(j:aK):fH (zeN 5000 j) (fj j):=by
 have no:∀{p:Prop},¬p->bM (some false) (λb=>b=true↔p):=λh=>by rw[aZ];simp[h]
 simp only[zeN,Og,Option.bind_some];have a:∀{l m x:Int}{o:Option Bool}{P:Prop},(P->l<=x/\x<=m)->(l<=x/\x<=m->bM o λb=>b=true↔P)->bM (if (decide (l<=x)&&decide (x<=m))=true then o else some false) λb=>b=true↔P:=λv n=>by rw[bp];simp only[bH,br];exact ⟨λh=>n h,λh=>no λp=>h (v p)⟩
 refine a (λk=>k.id) λc1=>a (λk=>k.user) λE=>a (λk=>k.queue) λF=>a (λk=>k.many) λG=>?_;refine (TR j.az).bind λr w=>?_;rw[bp];refine ⟨λh=>?_,λh=>no λk=>h ?_⟩
 rotate_left
 ·have O:aE.beq j.az bU=false:=by
   grind [gP,fj.tX]
  rw[w.2 k.need];change (true&&!(aE.beq j.az bU))=true
  simp_all
 simp only[bH,iF] at h;have K:=w.1 h.1;have q:j.az≠bU:=λe=>by
  have n:aE.beq j.az bU=false:=h.2
  grind [gP]
 refine a (λk=>k.wall) λL=>?_;have g:fH (ib 5000 j) (j.aF.length<=4/\∀d∈j.aF,1<=d.aV/\d.aV<=j.Id-1):=by
  simp only[ib,bp,aZ,Og,Option.bind_some];refine ⟨λh=>?_,λh=>?_⟩
  ·grind
  ·simp only[br] at h;refine Oh j.aF (λd=>1<=d.aV/\d.aV<=j.Id-1) _ (λk=>k.2) (λi f y Q v n=>?_) (λf S=>?_) (by omega)
   ·simp only[cK y,if_true,bV y,Option.bind_some,bS (show i<1000000 by omega),bp,aZ,iF,yB0,yBf]
    grind [wr]
   ·simp only[eC,bT,cn,aZ,OY]
    grind
 refine g.bind λT z=>?_;rw[bp];refine ⟨λh=>?_,λh=>no λk=>h (z.2 ⟨k.kJ,k.after⟩)⟩;have A:=z.1 h;refine a (λk=>k.version) λM=>a (λk=>k.born) λN=>a (λk=>k.start) λs=>a (λk=>k.fin) λt=>a (λk=>k.arr) λu=>?_;refine (Mq j).bind λrs hs=>?_;rw[aZ,hs];exact ⟨λk=>⟨c1,E,F,G,K,q,L,A.1,A.2,M,N,s,t,u,k⟩,λk=>k.state⟩
theorem xr(j:aK)(z:j.aF.length<=10):fH (zcU 5000 j) (fj j):=by
 simp only[zcU,dW,Rz,Option.bind_some];refine Oh j.aF (λd=>1<=d.aV/\d.aV<=i64.wrap (j.Id-1)) _ (λk d hd=>by have:=k.after d hd;have:=k.id;grind [wr]) (λi f a Q e A=>?_) (λf E=>?_) (by omega)
 ·simp only[cK a,if_true,bV a,Option.bind_some,bS (show i<1000000 by omega),bp,aZ,iF,yB0,yBf]
  grind
 ·simp only[eC,bT,cn];obtain ⟨F,g,e⟩:=vD j.az;simp only[g,Option.bind_some];have no:∀{p:Prop},¬p->(False↔p):=λh=>by simp[h]
  simp only[if_true,cn,bp,aZ,br,iF,yB0,yBf,bH,bT,oE,Ip,ne_eq,gq,nK];refine ⟨λc=>no λk=>by grind [fj.kJ],λG=>⟨λc=>no λk=>by have:=k.id;omega,λc1=>⟨λc=>no λk=>by have:=k.user;omega,λK=>⟨λc=>no λk=>by have:=k.queue;omega,λL=>⟨λc=>no λk=>by have:=k.many;omega,λM=>⟨λc=>no λk=>(by grind [fj.need]),λl=>?_⟩⟩⟩⟩⟩⟩;have v:=e.1 l;have m:Oj 5000 j.az ({ bL:=0,Mem:=0,bO:=0,bR:=0 }:aE)=some (decide (j.az=bU)):=GQ v;simp only[if_true,cn,m,Option.bind_some,bp,aZ,br,iF,yB0,yBf,bH,bT,oE,Ip,ne_eq,gq,nK];refine ⟨λc=>no λk=>k.tX c,λn=>⟨λc=>no λk=>by have:=k.wall;omega,λN=>⟨λc=>no λk=>by have:=k.state.st;omega,λO=>⟨λc=>no λk=>by have:=k.version;omega,λS=>⟨λc=>no λk=>by have:=k.arr;omega,λq=>⟨λc=>no λk=>by have:=k.born;omega,λr=>⟨λc=>no λk=>by have:=k.start;omega,λs=>⟨λc=>no λk=>by have:=k.fin;omega,λt=>⟨λc=>no λk=>by have:=k.state.start;omega,λu=>⟨λc=>no λk=>by have:=k.state.fin;omega,λw=>⟨λx=>?_,λc=>no λk=>c ?_⟩⟩⟩⟩⟩⟩⟩⟩⟩⟩⟩
  ·constructor
   ·intro y;refine ⟨by omega,by omega,by omega,by omega,v,n,by omega,by omega,λd hd=>?_,by omega,by omega,by omega,by omega,by omega,⟨by omega,by omega,by omega,λo=>?_,λo=>?_⟩⟩
    ·grind [wr]
    ·simp_all
    simp_all
   ·intro k;cases hk:j.dt with
    |false=>simp_all
    |true=>
     rcases k.state.kill hk with c | c
     ·omega
     omega
  ·cases hk:j.Ok with
   |false=>simp_all
   |true=>
    rcases k.state.ok hk with c | c
    ·omega
    omega
end Go.Plain
end
section
namespace Go.Plain
open Go.Abs
section
variable{X R:Type}{b:(X->Option R)->X->Option R}{Q:R->Prop}
theorem lpM(I:X->Prop)(m:X->Nat)(hs:∀x f,I x->(∀a,I a->m a<m x->bM (f a) Q)->bM (b f x) Q){x0:X}(e:I x0){N:Nat}(h:m x0<N):bM (bz b N x0) Q:=by
 induction N generalizing x0 with
 |zero=>omega
 |succ N ih=>exact hs x0 _ e λa d g=>ih d (by omega)
end
theorem mid{i j:Nat}(h:i+j<1000000):i64.wrap (Int.fdiv (u64.wrap (i64.wrap ((i:Int)+(j:Int)))) (2 ^ 1))=(((i+j) / 2:Nat):Int):=by
 rw[wr (x:=(i:Int)+(j:Int)) (by omega) (by omega)]
 grind [Go.IntKind.wrap,Go.IntKind.bits]
def bQ(l:List aK):Prop:=∀i (h:i+1<l.length),l[i].Id<l[i+1].Id
theorem bQ.lt{l:List aK}(h:bQ l):∀{i j:Nat}(s:i<j)(u:j<l.length),l[i].Id<l[j].Id:=by
 intro i j s u;induction j with
 |zero=>omega
 |succ j ih=>
  have x:=h j u
  grind
theorem bQ.inj{l:List aK}(h:bQ l){i j:Nat}(u:i<l.length)(x:j<l.length)(e:l[i].Id=l[j].Id):i=j:=by
 rcases Vx i j with s | s | s
 ·have:=h.lt s x;omega
 ·exact s
 ·have:=h.lt s u;omega
structure At (l:List aK) (id:Int) (r:Int):Prop where
 lo:0<=r
 hi:r.toNat<l.length
 is:l[r.toNat].Id=id
theorem At.mem{l:List aK}{id r:Int}(h:At l id r):∃j∈l,j.Id=id:=⟨l[r.toNat]'h.hi,bC _,h.is⟩
theorem At.Bl{l:List aK}{id r i:Int}(hs:bQ l)(h:At l id r)(j:At l id i):r=i:=by have:=hs.inj h.hi j.hi (by grind [At.is]);have:=h.lo;have:=j.lo;omega
theorem half{l:List aK}(v:l.length<=300)(hs:bQ l)(id:Int){R:Type}{Q:R->Prop}(C:aK->Option Bool)(n:∀j∈l,C j=some (decide (j.Id<id)))(E:Int->Option R)
  (w:∀i:Nat,i<=l.length->(∀k (h:k<l.length),k<i->l[k].Id<id)->(∀k (h:k<l.length),i<=k->id<=l[k].Id)->bM (E (i:Int)) Q) :
  ∀ (b : (Int × Int -> Option R) -> Int × Int -> Option R), (∀ f x, b f x = if decide (x.1 < x.2) = true then (aB l (i64.wrap (Int.fdiv (u64.wrap (i64.wrap (x.1 + x.2))) (2 ^ 1)))).bind λa => (C a).bind λc => if c = true then f ((i64.wrap ((i64.wrap (Int.fdiv (u64.wrap (i64.wrap (x.1 + x.2))) (2 ^ 1))) + 1)), x.2) else f (x.1, (i64.wrap (Int.fdiv (u64.wrap (i64.wrap (x.1 + x.2))) (2 ^ 1)))) else E x.1) ->
   bM (bz b 5000 (0,(l.length:Int))) Q:=by
 intro b p;refine lpM (λx=>∃i j:Nat,x=((i:Int),(j:Int))/\i<=j/\j<=l.length/\(∀k (h:k<l.length),k<i->l[k].Id<id)/\(∀k (h:k<l.length),j<=k->id<=l[k].Id)) (λx=>(x.2-x.1).toNat) (λx f r m=>?_) ⟨0,l.length,rfl,by omega,by omega,λk h hk=>by omega,λk h hk=>by omega⟩ (by omega);obtain ⟨i,j,rfl,y,s,t,u⟩:=r;rw[p,bp];dsimp only;refine ⟨λh=>?_,λh=>?_⟩
 ·simp only[br] at h;rw[mid (by omega)];have e:(i+j) / 2<l.length:=by omega
  rw[bV e,aD,n _ (bC e),aD,bp];refine ⟨λg=>?_,λg=>?_⟩
  ·simp only[br] at g;rw[bS (by omega)];refine m _ ⟨(i+j) / 2+1,j,rfl,by omega,s,λk hk d=>?_,u⟩ (by omega);rcases XI (yCe.1 d) with q | q
   ·have:=hs.lt q e;omega
   simp_all
  ·simp only[br] at g;refine m _ ⟨i,(i+j) / 2,rfl,by omega,by omega,t,λk hk d=>?_⟩ (by omega);rcases XI d with q | q
   ·have:=hs.lt q hk;omega
   simp_all
 ·simp only[br] at h;have:i=j:=by omega
  simp_all
theorem RX{l:List aK}(m:l.length<=300)(hs:bQ l){id:Int}(n:0<=id/\id<=1048576)(g:∀j∈l,0<=j.Id/\j.Id<=1048576):bM (nF 5000 l id) λr=>(r.2=true↔∃j∈l,j.Id=id)/\(r.2=true->At l id r.1):=by
 simp only[nF,zaz];rw[jV];refine half m hs id (λj=>some (decide (i64.wrap (j.Id-id)<0))) (λj d=>?_) (λi=>if (decide (i<(l.length:Int)))=true then (aB l i).bind λp=>(gC 5000 p id).bind λs=>some (i,(s == 0)) else some (i,false)) (λi t u v=>?_) _ (λf x=>rfl)
 ·have:=g j d;rw[wr (by omega) (by omega)]
  grind
 ·rw[bp];refine ⟨λh=>?_,λh=>?_⟩
  ·simp only[br] at h;have a:i<l.length:=by omega
   have:=g _ (bC a);rw[bV a,aD];simp only[gC,Option.bind_some,aZ,nK];rw[wr (by omega) (by omega)];refine ⟨⟨λe=>⟨_,bC a,by omega⟩,λ⟨j,d,e⟩=>?_⟩,λe=>⟨by omega,by omega,by grind⟩⟩;obtain ⟨k,hk,rfl⟩:=ky d;rcases Vx k i with q | q | q
   ·grind
   ·simp_all
   ·have:=hs.lt q hk;grind
  ·simp only[br] at h;simp only[aZ,bT,FE,false_implies,KI]
   grind [List.getElem_of_mem]
theorem qh{l:List aK}(g:l.length<=300)(id:Int):bM (Oy 5000 l id) λr=>(0<=r↔∃j∈l,j.Id=id)/\(0<=r->At l id r)/\(r<0->r=-1):=by
 simp only[Oy];refine vk l (λ_ j=>j.Id≠id) (λi f h _ a=>?_) (λf h=>?_) (by omega)
 ·simp only[cK h,if_true,bV h,Option.bind_some,bS (show i<1000000 by omega),bp,aZ,nK];exact ⟨λe=>⟨⟨λ_=>⟨_,bC h,e⟩,λ_=>by omega⟩,λ_=>⟨by omega,by omega,by simp_all⟩,λh=>by omega⟩,λe=>a e⟩
 ·simp only[eC,bT,cn,aZ];refine ⟨⟨λh=>by omega,λ⟨j,d,e⟩=>absurd e (CW (A:=λj=>j.Id≠id) h j d)⟩,λh=>by omega,λ_=>trivial⟩
structure CU (l:List cV) (n:Int) (i:Nat) (x:cV):Prop where
 up:KA (l.map (·.Node)) i<x.Node
 lt:x.Node<n
 lo:1<=x.aL
 hi:x.aL<=64
def ba(l:List cV)(n:Int):Prop:=∀i (h:i<l.length),CU l n i l[i]
theorem ba.node{l:List cV}{n:Int}(h:ba l n):nE (l.map (·.Node)) n:=λi j=>by rw[xF] at j;rw[VG];exact ⟨(h i j).up,(h i j).lt⟩
theorem ba.mem{l:List cV}{n:Int}(h:ba l n):∀x∈l,0<=x.Node/\x.Node<n/\1<=x.aL/\x.aL<=64:=λx j=>by have s:=h.node.mem x.Node (iQ.2 ⟨x,j,rfl⟩);obtain ⟨i,z,rfl⟩:=ky j;have u:=h i z;exact ⟨s.1,s.2,u.lo,u.hi⟩
theorem qN{l:List cV}{i:Nat}(h:i<l.length):KA (l.map (·.Node)) (i+1)=l[i].Node:=by grind [qt]
theorem oW(l:List cV)(n:Int)(s:l.length<=300):fH (zdZ 5000 l n) (ba l n):=by
 simp only[zdZ];refine jb l.length (λi x=>x=(KA (l.map (·.Node)) i,(i:Int))/\∀j (g:j<l.length),j<i->CU l n j l[j]) (λi x f a d p=>?_) (λx f d=>?_) ⟨rfl,λj g h=>by omega⟩ (by omega)
 ·obtain ⟨rfl,k⟩:=d;simp only[cK a,if_true,bV a,Option.bind_some,bS (show i<1000000 by omega),bp,aZ,gq,br];refine ⟨λh=>?_,λh=>p _ ⟨by rw[qN a],λj g e=>?_⟩⟩
  ·simp only[bT,FE];intro r;have q:=r i a;have t:=q.up;have u:=q.lt;have v:=q.lo;have w:=q.hi;omega
  ·rcases XI (yCe.1 e) with m | m
   ·simp_all
   ·subst m;exact ⟨by omega,by omega,by omega,by omega⟩
 ·obtain ⟨rfl,k⟩:=d;simp only[eC,bT,cn,aZ,OY];exact λi a=>k i a a
theorem Bs(l:List cV)(n:Int)(u:l.length<=300):fH (zbh 5000 l n) (ba l n):=by
 simp only[zbh,dW];refine vk l (λi a=>CU l n i a) (λi f h v e=>?_) (λf h=>?_) (by omega)
 ·have hd:decide ((i:Int) > 0)=decide (0<i):=by simp
  simp only[cK h,if_true,bV h,Option.bind_some,bS (show i<1000000 by omega),bp,aZ,br,hd,bT,cn];have bad:¬(CU l n i l[i])->(False↔ba l n):=λg=>by simp only[FE];exact λd=>g (d i h)
  refine ⟨λj=>?_,λj=>⟨λp=>bad λk=>by have:=k.lt;omega,λp=>⟨λq=>bad λk=>by have:=k.lo;omega,λq=>⟨λr=>bad λk=>by have:=k.hi;omega,λr=>⟨λs=>?_,λs=>?_⟩⟩⟩⟩⟩
  ·simp only[FE];intro d;have:=(d.mem _ (bC h)).1;omega
  ·obtain ⟨m,rfl⟩:∃m,i=m+1:=⟨i-1,by omega⟩;rw[wp1 (show m+1<1000000 by omega),bV (show m<l.length by omega)];simp only[Option.bind_some,bp,br,aZ,bT];exact ⟨λt=>bad λk=>by have:=k.up;grind [qN],λt=>e ⟨by grind [qN],by omega,by omega,by omega⟩⟩
  ·have:i=0:=by omega
   subst this;exact e ⟨by grind [KA],by omega,by omega,by omega⟩
 ·simp only[eC,bT,cn,aZ,OY];exact h
def kN(l:List cV):Int:=(l.map (·.aL)).sum
theorem WJ{l:List cV}(h:∀x∈l,1<=x.aL/\x.aL<=64):0<=kN l/\kN l<=64 * l.length:=by
 induction l with
 |nil=>simp[kN]
 |cons x l ih=>
  have:=ih λy a=>h y (pM _ a)
  grind [kN]
theorem NU{l:List cV}{i:Nat}(h:i<l.length):kN (l.take (i+1))=kN (l.take i)+l[i].aL:=by grind [List.take_succ_eq_append_getElem,kN]
theorem Nq{l:List cV}{n:Int}(g:l.length<=300)(h:ba l n):oQ 5000 l=some (kN l):=by
 simp only[oQ];refine bM.eq (jb l.length (λi x=>x=(kN (l.take i),(i:Int))) (λi x f d a j=>?_) (λx f a=>?_) (by simp[kN]) (by omega))
 ·subst a;have q:=h.mem _ (bC d);have b:=WJ (l:=l.take i) λx a=>(h.mem x (Qo a)).2.2;have k:((l.take i).length:Int)<=300:=by rw[Cs];omega
  have e:zcm 5000 l[i].aL 0 64=some l[i].aL:=by
   simp only[zcm]
   grind
  simp only[cK d,if_true,bV d,Option.bind_some,e,bS (show i<1000000 by omega)]
  grind [wr,NU]
 ·subst a;simp only[eC,bT,cn,aZ,xA]
theorem UU{l:List cV}{n:Int}(e:l.length<=300)(h:ba l n):zdN 5000 l=some (kN l):=by
 simp only[zdN,dW];refine bM.eq (jb l.length (λi x=>x=(kN (l.take i),(i:Int))) (λi x f d a g=>?_) (λx f a=>?_) (by simp[kN]) (by omega))
 ·subst a;have q:=h.mem _ (bC d);have b:=WJ (l:=l.take i) λx a=>(h.mem x (Qo a)).2.2;have j:((l.take i).length:Int)<=300:=by grind
  simp only[cK d,if_true,bV d,Option.bind_some,bS (show i<1000000 by omega)];rw[if_neg (by simp_all),if_pos (by grind),wr (by omega) (by omega)]
  grind [NU]
 ·subst a;simp only[eC,bT,cn,aZ,xA]
theorem MH(l:List Int)(g:l.length<=300)(x:Int):fH (zb9 5000 l x) (x∈l):=by
 simp only[fH,zb9,zd5];rw[jV];refine vk l (λ_ y=>x≠y) (λi f h _ a=>?_) (λf h=>?_) (by omega)
 ·simp only[cK h,if_true,bV h,Option.bind_some,bS (show i<1000000 by omega),bp,nK];refine ⟨λe=>?_,λe=>a e⟩;simp only[aZ,br]
  simp_all
 ·simp only[eC,bT,cn,aZ,br];exact ⟨λh=>by omega,λd=>absurd rfl (CW (A:=λy=>x≠y) h x d)⟩
theorem ref_has(l:List Int)(d:l.length<=300)(x:Int):fH (zeS 5000 l x) (x∈l):=by
 simp only[zeS];refine vk l (λ_ y=>y≠x) (λi f h _ e=>?_) (λf h=>?_) (by omega)
 ·simp only[cK h,if_true,bV h,Option.bind_some,bS (show i<1000000 by omega),bp,nK,aZ,OY]
  grind
 ·simp only[eC,bT,cn,aZ,FE];exact λa=>absurd rfl (CW (A:=λy=>y≠x) h x a)
structure jC (s:bm) (j:aK) (l:List cV):Prop where
 shares:ba l s.am.length
 Uk:kN l=j.aL
 q:0<=j.Queue/\j.Queue<s.aj.length
 part:∀x∈l,x.Node∈(s.aH[((s.aj[j.Queue.toNat]?).getD default).Part.toNat]?).getD []
theorem KF{s:bm}(hs:lq s)(k:bn s)(j:aK)(l:List cV)(g:l.length<=300):fH (ze9 5000 s j l) (jC s j l):=by
 have no:∀{p:Prop},¬p->bM (some false) (λb=>b=true↔p):=λh=>by rw[aZ];simp[h]
 simp only[ze9,dW];refine (oW l _ g).bind λr m=>?_;rw[bp];refine ⟨λh=>?_,λh=>?_⟩
 ·simp only[if_true];exact no λk=>by grind [jC.shares]
 ·simp only[iF,oE] at h;have S:=m.1 h;rw[Nq g S,aD,bp];refine ⟨λt=>no λk=>by grind [jC.Uk],λt=>?_⟩;have u:kN l=j.aL:=by simp_all
  rw[bp];refine ⟨λv=>no λk=>by have:=k.q;grind,λv=>?_⟩;have a:0<=j.Queue/\j.Queue<s.aj.length:=by simp_all
  obtain ⟨d,e⟩:=Eh a.1 a.2;have n:=k.gX.ok _ (bC d);obtain ⟨w,y⟩:=Eh n.part.1 n.part.2;have lp:=hs.part _ (bC w);have z:(s.aH[((s.aj[j.Queue.toNat]?).getD default).Part.toNat]?).getD []=s.aH[s.aj[j.Queue.toNat].Part.toNat]:=by simp_all
  rw[e,aD,y,aD];refine Oh l (λx=>x.Node∈s.aH[s.aj[j.Queue.toNat].Part.toNat]) _ (λk x d=>by rw[<-z];exact k.part x d) (λi f q Q A E=>?_) (λf F=>?_) (by omega)
  ·simp only[cK q,if_true,bV q,Option.bind_some,bS (show i<1000000 by omega)];refine (MH _ (lQ lp (by decide)) _).bind λr m=>?_;simp only[bp,aZ,iF,oE]
   grind
  ·simp only[eC,bT,cn,aZ,OY];exact ⟨S,u,a,by simp_all⟩
theorem Me{s:bm}(hs:lq s)(k:bn s)(j:aK)(l:List cV)(g:l.length<=300):fH (zdg 5000 s j l) (jC s j l):=by
 have no:∀{p:Prop},¬p->bM (some false) (λb=>b=true↔p):=λh=>by rw[aZ];simp[h]
 simp only[zdg,dW];refine (Bs l _ g).bind λr m=>?_;rw[bp];refine ⟨λh=>?_,λh=>?_⟩
 ·simp only[if_true];exact no λk=>by grind [jC.shares]
 ·simp only[iF,oE] at h;have S:=m.1 h;rw[UU g S,aD,bp];refine ⟨λu=>no λk=>by have:=k.Uk;have:=k.q;grind,λu=>?_⟩;have n:kN l=j.aL/\0<=j.Queue/\j.Queue<s.aj.length:=by simp_all
  have a:=n.2;obtain ⟨d,e⟩:=Eh a.1 a.2;have q:=k.gX.ok _ (bC d);obtain ⟨v,w⟩:=Eh q.part.1 q.part.2;have lp:=hs.part _ (bC v);have y:(s.aH[((s.aj[j.Queue.toNat]?).getD default).Part.toNat]?).getD []=s.aH[s.aj[j.Queue.toNat].Part.toNat]:=by simp_all
  rw[e,aD,w,aD];refine Oh l (λx=>x.Node∈s.aH[s.aj[j.Queue.toNat].Part.toNat]) _ (λk x d=>by rw[<-y];exact k.part x d) (λi f t Q z A=>?_) (λf E=>?_) (by omega)
  ·simp only[cK t,if_true,bV t,Option.bind_some,bS (show i<1000000 by omega)];refine (ref_has _ (lQ lp (by decide)) _).bind λr m=>?_;simp only[bp,aZ,iF,oE]
   grind
  ·simp only[eC,bT,cn,aZ,OY];exact ⟨S,n.1,a,by simp_all⟩
end Go.Plain
end
section
namespace Go.Plain
open Go.Abs
def cmp:Nat->aE->Int
 |0,r=>r.bL
 |1,r=>r.Mem
 |2,r=>r.bO
 |_,r=>r.bR
theorem vY{r:aE}:aM r↔∀c,0<=cmp c r/\cmp c r<=1048576:=by
 constructor
 ·intro h c
  match c with
  |0=>exact h.FY
  |1=>exact h.mem
  |2=>exact h.IW
  |_+3=>exact h.Ky
 ·intro h;exact ⟨h 0,h 1,h 2,h 3⟩
theorem dU{a b:aE}(h:∀c,cmp c a=cmp c b):a=b:=by
 obtain ⟨d,e,f,g⟩:=a;obtain ⟨i,j,k,l⟩:=b;have m:=h 0;have n:=h 1;have p:=h 2;have q:=h 3
 grind [cmp]
def fo(a b:aE):aE:={ bL:=a.bL-b.bL,Mem:=a.Mem-b.Mem,bO:=a.bO-b.bO,bR:=a.bR-b.bR }
def AP(a b:aE):aE:={ bL:=a.bL+b.bL,Mem:=a.Mem+b.Mem,bO:=a.bO+b.bO,bR:=a.bR+b.bR }
def mulR(n:Int)(a:aE):aE:={ bL:=n * a.bL,Mem:=n * a.Mem,bO:=n * a.bO,bR:=n * a.bR }
theorem Cq(c:Nat)(a b:aE):cmp c (fo a b)=cmp c a-cmp c b:=by match c with | 0=>rfl | 1=>rfl | 2=>rfl | _+3=>rfl
theorem vZ(c:Nat)(a b:aE):cmp c (AP a b)=cmp c a+cmp c b:=by match c with | 0=>rfl | 1=>rfl | 2=>rfl | _+3=>rfl
theorem Bn(c:Nat)(n:Int)(a:aE):cmp c (mulR n a)=n * cmp c a:=by match c with | 0=>rfl | 1=>rfl | 2=>rfl | _+3=>rfl
theorem NX(c:Nat):cmp c bU=0:=by match c with | 0=>rfl | 1=>rfl | 2=>rfl | _+3=>rfl
theorem Da{a:Int}(h:a.natAbs<2 ^ 53):zQ a=some a:=by unfold zQ;simp_all
theorem HC{a b c d:Int}(e:a.natAbs<2 ^ 53)(f:b.natAbs<2 ^ 53)(g:c.natAbs<2 ^ 53)(hd:d.natAbs<2 ^ 53) :
  bM (zdx 5000 (a,b) (c,d)) λr=>(r.2=0↔aM ⟨a,b,c,d⟩)/\(r.2=0->r.1=⟨a,b,c,d⟩):=by
 simp only[zdx,mB,Da e,Da f,Da g,Da hd,Option.bind_some];refine (TR _).bind λr h=>?_;simp only[bp,aZ,iF,oE]
 grind
theorem gE{n x:Int}(a:0<=n/\n<=64)(d:0<=x/\x<=1048576):0<=n * x/\n * x<=67108864:=by have e:0<=n * x:=yBL a.1 d.1;have f:n * x<=64 * x:=yAQ a.2 d.1;omega
theorem NK{a:aE}{n:Int}(d:aM a)(m:1<=n/\n<=64):bM (lY 5000 a n) λr=>(r.2=0↔aM (mulR n a))/\(r.2=0->r.1=mulR n a):=by
 simp only[lY];obtain ⟨p,i,j⟩:=TR a;have k:=j.2 d;subst k;have e:0<=n/\n<=64:=by omega
 simp only[i,Option.bind_some,Om,yCn];rw[if_neg (by simp_all)];by_cases g:a=bU
 ·subst g;rw[if_pos (by exact gP.2 rfl),aZ];have:mulR n bU=bU:=by simp[mulR,bU]
  rw[this];exact ⟨⟨λ_=>⟨by simp[bU],by simp[bU],by simp[bU],by simp[bU]⟩,λ_=>rfl⟩,λ_=>rfl⟩
 ·rw[if_neg (show ¬(aE.beq a ({ bL:=0,Mem:=0,bO:=0,bR:=0 }:aE)=true) from λh=>g (gP.1 h)),if_neg (by grind)];have f:∀{x:Int},0<=x/\x<=1048576->xN x n=some (x * n):=λ{x} q=>by unfold xN;grind
  have s:=gE e d.FY;have t:=gE e d.mem;have u:=gE e d.IW;have v:=gE e d.Ky;simp only[zdc,Option.bind_some,f d.FY,f d.mem,f d.IW,f d.Ky];rw[Int.mul_comm a.bL n,Int.mul_comm a.Mem n,Int.mul_comm a.bO n,Int.mul_comm a.bR n];refine (HC (by omega) (by omega) (by omega) (by omega)).bind λr l=>?_;rw[aZ];exact l
theorem XL{a b:aE}(d:aM a)(e:aM b):bM (vy 5000 a b) λr=>(r.2=0↔aM (fo a b))/\(r.2=0->r.1=fo a b):=by
 simp only[vy,dW];obtain ⟨n,g,h⟩:=TR a;have i:=h.2 d;subst i;obtain ⟨p,j,k⟩:=TR b;have l:=k.2 e;subst l;have f:∀{x y:Int},0<=x/\x<=1048576->0<=y/\y<=1048576->xw x y=some (x-y):=λ{x y} q s=>by unfold xw;grind
 simp only[g,j,Option.bind_some,Om,bT,cn,zdc,f d.FY e.FY,f d.mem e.mem,f d.IW e.IW,f d.Ky e.Ky];have:=d.FY;have:=d.mem;have:=d.IW;have:=d.Ky;have:=e.FY;have:=e.mem;have:=e.IW;have:=e.Ky;refine (HC (by omega) (by omega) (by omega) (by omega)).bind λr m=>?_;rw[aZ];exact m
def dM(l:List cV)(i:Int):Int:=(l.map λx=>if x.Node=i then x.aL else 0).sum
theorem nr{l:List cV}{k:Nat}(h:k<l.length)(i:Int):dM (l.take (k+1)) i=dM (l.take k) i+if l[k].Node=i then l[k].aL else 0:=by grind [List.take_succ_eq_append_getElem,dM]
theorem xV{l:List cV}(h:∀x∈l,0<=x.aL)(i:Int):0<=dM l i:=by
 induction l with
 |nil=>simp[dM]
 |cons x l ih=>grind [dM]
theorem Sf{l m:List cV}(i:Int):dM (l++m) i=dM l i+dM m i:=by simp[dM]
theorem Xl{l:List cV}(h:∀x∈l,0<=x.aL)(k:Nat)(i:Int):dM (l.take k) i<=dM l i:=by have:=Sf (l:=l.take k) (m:=l.drop k) i;rw[NW] at this;have:=xV (l:=l.drop k) (λx a=>h x (yBh a)) i;omega
theorem qL{l:List cV}{n:Int}(h:ba l n)(i:Int):0<=dM l i/\dM l i<=64:=by
 refine ⟨xV (λx d=>by have:=h.mem x d;omega) i,?_⟩;have a:∀k,k<=l.length->(dM (l.take k) i<=64/\(dM (l.take k) i≠0->i<=KA (l.map (·.Node)) k)):=by
  intro k;induction k with
  |zero=>grind [dM]
  |succ k ih=>intro hk;obtain ⟨e,f⟩:=ih (by omega);have s:=h k (by omega);have s1:=s.up;have g:=s.lt;have j:=s.lo;have m:=s.hi;rw[nr (by omega),qN (show k<l.length by omega)];omega
 have:=(a l.length (cU _)).1
 simp_all
theorem OZ{l:List cV}{n:Int}(m:l.length<=300)(h:ba l n)(i:Int):zcs 5000 l i=some (dM l i):=by
 simp only[zcs,dW];refine bM.eq (jb l.length (λk x=>x=(dM (l.take k) i,(k:Int))) (λk x f d a j=>?_) (λx f a=>?_) (by simp[dM]) (by omega))
 ·subst a;have q:=h.mem _ (bC d);have b:=xV (l:=l.take k) (λx a=>by have:=h.mem x (Qo a);omega) i;have p:=Xl (λx a=>by have:=h.mem x a;omega) k i;have r:=qL h i;have e:=nr d i;simp only[cK d,if_true,bV d,Option.bind_some,bS (show k<1000000 by omega),bp,nK];refine ⟨λg=>?_,λg=>j _ ?_⟩
  ·rw[if_pos g] at e
   grind [wr]
  simp_all
 ·subst a;simp only[eC,bT,cn,aZ,xA]
def qy(a:bF)(i:Nat)(r:aE):aE:=fo r (mulR (dM a.ae i) a.az)
def vl(F:List aE)(a:bF):Prop:=∀i (h:i<F.length),aM (qy a i F[i])
structure rH (F:List aE) (a:bF) (G:List aE):Prop where
 len:G.length=F.length
 cL:∀i (h:i<G.length),G[i]=qy a i (F[i]'(by omega))
theorem Tg{a:bF}{F:List aE}(hF:F.length<=300)(hl:a.ae.length<=300)(N:ba a.ae F.length)(E:aM a.az)(T:∀r∈F,aM r) :
  bM (zbL 5000 a F) λr=>(r.2=0↔vl F a)/\(r.2=0->rH F a r.1):=by
 simp only[zbL,za5,xQ (show F.length<=1000000 by omega),Option.bind_some];have nn:∀x∈a.ae,0<=x.aL:=λx p=>by have:=N.mem x p;omega
 refine jb a.ae.length (λk x=>x.1=(k:Int)/\x.2.length=F.length/\(∀r∈x.2,aM r)/\∀i (h:i<x.2.length) (j:i<F.length),x.2[i]=fo F[i] (mulR (dM (a.ae.take k) i) a.az)) (λk x f hk p U=>?_) (λx f p=>?_) ⟨rfl,rfl,T,λi h j=>?_⟩ (by omega)
 ·obtain ⟨W,G⟩:=x;obtain ⟨rfl,g,m,d⟩:=p;dsimp only at g m d ⊢;have q:=N.mem _ (bC hk);have O:a.ae[k].Node.toNat<G.length:=by omega
  have u:a.ae[k].Node.toNat<F.length:=by omega
  have K:((a.ae[k].Node.toNat:Nat):Int)=a.ae[k].Node:=by omega
  have Y:=nr hk a.ae[k].Node;rw[if_pos rfl] at Y;have le:=Xl nn (k+1) a.ae[k].Node;have n0:=xV (l:=a.ae.take k) (λx p=>nn x (Qo p)) a.ae[k].Node;have L:=d _ O u;rw[K] at L;have bad:(∃c,cmp c G[a.ae[k].Node.toNat]-a.ae[k].aL * cmp c a.az<0)->¬vl F a:=λ⟨c,w⟩ y=>by
   have M:=vY.1 (y _ u) c;rw[qy,Cq,Bn,K] at M;rw[L,Cq,Bn] at w;have z:0<=cmp c a.az:=(vY.1 E c).1;have h3:(dM (a.ae.take k) a.ae[k].Node+a.ae[k].aL) * cmp c a.az<=dM a.ae a.ae[k].Node * cmp c a.az:=yAQ (by omega) z
   grind
  simp only[cK hk,if_true,bV hk,Option.bind_some,bS (show k<1000000 by omega)];refine (NK E q.2.2).bind λr s=>?_;simp only[bp,aZ,Ip,ne_eq,Ua];refine ⟨λh=>⟨⟨λj=>absurd j h,λy=>?_⟩,λj=>absurd j h⟩,λh=>?_⟩
  ·exfalso;refine bad ?_ y;have n:¬aM (mulR a.ae[k].aL a.az):=λv=>h (s.1.2 v);rw[vY] at n;obtain ⟨c,w⟩:=Classical.not_forall.1 n;refine ⟨c,?_⟩;rw[Bn] at w;have M:=gE (show 0<=a.ae[k].aL/\a.ae[k].aL<=64 by omega) (vY.1 E c)
   grind [vY,List.getElem_mem]
  ·have Z:=s.2 h;have v1:=s.1.1 h;obtain ⟨aa,e⟩:=Eh (l:=G) (x:=a.ae[k].Node) (by omega) (by omega);rw[e,aD,Z];refine (XL (m _ (bC O)) v1).bind λr2 t=>?_;simp only[Option.bind_some,bp,aZ,Ip,ne_eq,Ua];refine ⟨λj=>⟨⟨λz=>absurd z j,λy=>?_⟩,λz=>absurd z j⟩,λj=>?_⟩
   ·exfalso;refine bad ?_ y;have n:¬aM (fo G[a.ae[k].Node.toNat] (mulR a.ae[k].aL a.az)):=λv=>j (t.1.2 v);rw[vY] at n;obtain ⟨c,w⟩:=Classical.not_forall.1 n;refine ⟨c,?_⟩;rw[Cq,Bn] at w;have M:=gE (show 0<=a.ae[k].aL/\a.ae[k].aL<=64 by omega) (vY.1 E c)
    grind [vY,List.getElem_mem]
   ·have e2:=t.2 j;have v2:=t.1.1 j;refine U _ ⟨rfl,by simp_all,λr ab=>?_,λi S ad=>?_⟩
    ·grind
    ·dsimp only at S ⊢;rw[YB] at S;rw[List.getElem_set];have A:=nr hk (i:Int);split
     ·rename_i ei;subst ei;rw[e2,L];rw[if_pos K.symm] at A;rw[A];refine dU λc=>?_;rw[Cq,Cq,Cq,Bn,Bn,Bn,Int.add_mul,K];omega
     grind
 ·obtain ⟨W,G⟩:=x;obtain ⟨rfl,g,m,d⟩:=p;dsimp only at g m d ⊢;simp only[eC,bT,cn,aZ,xA,OY,true_implies] at d ⊢;refine ⟨λi h=>?_,g,λi h=>d i h (by omega)⟩;have:=m _ (bC (show i<G.length by omega));rw[d i (by omega) h] at this;exact this
 ·refine dU λc=>?_;rw[Cq,Bn];simp[dM]
theorem GZ{a:bF}(h:a.ae.length<=1000000):iW 5000 a=some a:=by simp only[iW,zbw,xQ h,Option.bind_some]
structure vx (M:List (Int×bF)) (F:List aE) (a:bF):Prop where
 Fs:1<=a.aV/\a.aV<=1048576
 some':a.ae≠[]
 shares:ba a.ae F.length
 need:aM a.az
 free:cI M a.aV=none
 fits:vl F a
theorem IE{M:List (Int×bF)}{a:bF}{F:List aE}(i:F.length<=300)(g:a.ae.length<=300)(j:∀r∈F,aM r) :
  bM (zaS 5000 M a F) λr=>(r.2.1=0↔vx M F a)/\(r.2.1=0->r.1=jI M a.aV a/\rH F a r.2.2):=by
 simp only[zaS,dW,if_true,bT,cn];have no:∀{p:Prop}{x:List (Int×bF)×Int×List aE}{q:Prop},¬p->x.2.1≠0->bM (some x) (λr=>(r.2.1=0↔p)/\(r.2.1=0->r.1=jI M a.aV a/\rH F a r.2.2)):=λ{p x q} m n=>by grind [aZ]
 rw[bp];refine ⟨λh=>?_,λh=>?_⟩
 ·simp only[gq,br,nK] at h;refine no (q:=True) (λt=>?_) (by simp);have:=t.Fs;rcases h with h | h
  ·omega
  ·exact t.some' (Xo (by omega))
 ·simp only[gq,br,nK,not_or] at h;refine (oW _ _ g).bind λr k=>?_;rw[bp];refine ⟨λe=>no (q:=True) (λt=>by grind [vx.shares]) (by simp),λe=>?_⟩;simp only[iF,oE] at e;have S:=k.1 e;refine (TR a.az).bind λs f=>?_;rw[bp];refine ⟨λe=>no (q:=True) (λt=>by grind [vx.need]) (by simp),λe=>?_⟩;simp only[iF,oE] at e;have V:=f.1 e;cases l:cI M a.aV with
  |some v=>exact no (q:=True) (λt=>by grind [vx.free]) (by simp)
  |none=>
   simp only[oel];refine (Tg i g S V j).bind λu d=>?_;rw[bp];refine ⟨λe=>?_,λe=>?_⟩
   ·simp only[Ip,ne_eq] at e;exact no (q:=True) (λt=>e (d.1.2 t.fits)) e
   ·simp only[Ip,ne_eq,Ua] at e;rw[GZ (by omega),aD,aZ];refine ⟨⟨λ_=>⟨by omega,λw=>?_,S,V,l,d.1.1 e⟩,λ_=>rfl⟩,λ_=>⟨rfl,d.2 e⟩⟩
    simp_all
end Go.Plain
end
section
namespace Go.Plain
open Go.Abs
theorem cY{p:Prop}(h:¬p):bM (some false) (λb=>b=true↔p):=by grind [aZ]
theorem qD{p:Prop}(h:p):bM (some true) (λb=>b=true↔p):=by grind [aZ]
structure OV (s:bm) (st:cf):Prop where
 now:0<=st.aR/\st.aR<=1099511627776
 next:1<=st.Next/\st.Next<=s.lc+1
 book:1<=st.cX/\st.cX<=281474976710656
theorem PK{s:bm}(k:bn s)(st:cf):fH (jB 5000 s st) (OV s st):=by have f:=k.ids;simp only[jB,zdk,Option.bind_some,fH];rw[wr (x:=s.lc+1) (by omega) (by omega)];simp only[bp,aZ,bH,br,bT,FE];exact ⟨λa=>⟨λd=>⟨λe=>⟨a,d,e⟩,λh=>h.book⟩,λd h=>d h.next⟩,λa h=>a h.now⟩
def jm(x:Int):Int:=if x=3 then 1 else if x=4 then 2 else if x=5∨x=6 then 3 else 0
theorem Ez(x:Int):0<=jm x/\jm x<=3:=by unfold jm;split <;> (try split) <;> (try split) <;> omega
theorem WR(x:Int):oB 5000 x=some (jm x):=by
 simp only[oB,VA,Option.bind_some,nK,gq]
 grind [jm]
structure my (s:bm) (st:cf) (j:aK):Prop where
 ok:fj j
 next:j.Id<st.Next
 user:j.cw<s.aU
 queue:j.Queue<s.aj.length
 born:j.dy<=st.aR
 start:j.Start<=st.aR
 fin:j.End<=st.aR
 version:j.aN<=s.aI+jm j.State
def Ku(l:List aK):Nat->Int
 |0=>0
 |i+1=>((l[i]?).map (·.Id)).getD 0
theorem vO{l:List aK}{i:Nat}(h:i<l.length):Ku l (i+1)=l[i].Id:=by simp[Ku,h]
structure dv (s:bm) (st:cf):Prop where
 len:(st.ai.length:Int)<=s.ai
 each:∀j∈st.ai,my s st j
 bK:bQ st.ai
theorem Sr{s:bm}{st:cf}(h:(st.ai.length:Int)<=s.ai)(g:∀i (h:i<st.ai.length),my s st st.ai[i]/\Ku st.ai i<st.ai[i].Id):dv s st:=
 ⟨h,λj a=>by grind [List.getElem_of_mem],λi d=>by grind [vO]⟩
theorem dv.cL{s:bm}{st:cf}(h:dv s st)(i:Nat)(j:i<st.ai.length):my s st st.ai[i]/\Ku st.ai i<st.ai[i].Id:=by
 refine ⟨h.each _ (bC j),?_⟩
 match i,j with
 |0,j=>have:=(h.each _ (bC j)).ok.id;grind [Ku]
 |i+1,j=>rw[vO (by omega)];exact h.bK i j
theorem dv.ids{s:bm}{st:cf}(h:dv s st):∀j∈st.ai,0<=j.Id/\j.Id<=1048576:=λj i=>by have:=(h.each j i).ok.id;omega
theorem max3{a b c n:Int}:(if c > (if b > a then b else a) then c else (if b > a then b else a)) > n↔a > n∨b > n∨c > n:=by omega
theorem jobs_ok{s:bm}(k:bn s){st:cf}(p:lm s st):fH (qO 5000 s st) (dv s st):=by
 have z:=k.ua;have A:=p.bg;simp only[qO,dW,WR,Option.bind_some];rw[fH,bp];refine ⟨λh=>cY λq=>?_,λt=>?_⟩
 ·have:=q.len
  grind
 ·simp only[br] at t;refine jb st.ai.length (λi x=>x=(Ku st.ai i,(i:Int))/\∀j (h:j<st.ai.length),j<i->my s st st.ai[j]/\Ku st.ai j<st.ai[j].Id) (λi x f d g u=>?_) (λx f g=>?_) ⟨rfl,λj h l=>by omega⟩ (by omega)
  ·obtain ⟨rfl,n⟩:=g;simp only[cK d,if_true,bV d,Option.bind_some,bS (show i<1000000 by omega)];refine (AN _).bind λr e=>?_;rw[bp];refine ⟨λh=>cY λq=>?_,λh=>?_⟩
   ·have a:=q.cL i d;have E:=e.2 a.1.ok;have F:=a.1.next
    grind
   ·simp only[gq,br,not_or,iF,oE] at h;have a:=e.1 h.1.1;rw[bp];refine ⟨λh=>cY λq=>?_,λv=>?_⟩
    ·have a:=(q.cL i d).1;have:=a.user;have:=a.queue
     grind
    ·simp only[gq,br,not_or] at v;rw[bp];refine ⟨λh=>?_,λw=>?_⟩
     ·refine cY λq=>?_;have a:=(q.cL i d).1;have:=a.born;have:=a.start;have:=a.fin
      grind
     ·simp only[br,max3] at w;have G:=Ez st.ai[i].State;rw[wr (x:=s.aI+jm _) (by omega) (by omega),bp];refine ⟨λh=>cY λq=>?_,λy=>u _ ⟨by rw[vO d],λj K m=>?_⟩⟩
      ·have a:=(q.cL i d).1.version
       grind
      ·simp only[br] at y;rcases XI (yCe.1 m) with l | l
       ·simp_all
       ·subst l;exact ⟨⟨a,by omega,by omega,by omega,by omega,by omega,by omega,by omega⟩,by omega⟩
  ·obtain ⟨rfl,n⟩:=g;simp only[eC,bT,cn];exact qD (Sr (by omega) λi d=>n i d d)
structure WaitsIn (s:bm) (st:cf) (j:aK):Prop where
 fits:jh 5000 s j.Queue j.aL j.az=some true
 after:∀d∈j.aF,∃i∈st.ai,i.Id=d.aV
def Hn(s:bm)(st:cf)(j:aK):Prop:=j.State<5->WaitsIn s st j
theorem OI{s:bm}(k:bn s){st:cf}(t:lm s st)(J:dv s st):fH (jz 5000 s st) (∀j∈st.ai,Hn s st j):=by
 have F:=t.bg;simp only[jz,dW,VA,Option.bind_some];refine Oh st.ai (Hn s st) _ (λh=>h) (λi f n Q u v=>?_) (λf h=>?_) (by omega)
 ·simp only[cK n,if_true,bV n,Option.bind_some,bS (show i<1000000 by omega)];have a:=J.each _ (bC n);have z:=a.ok.state.st;rw[bp];refine ⟨λh=>u λhs=>?_,λh=>?_⟩
  ·grind
  ·simp only[gq,nK,not_or] at h;have hs:st.ai[i].State<5:=by omega
   obtain ⟨b,x,G⟩:=SZ t.spec k (q:=st.ai[i].Queue) (m:=st.ai[i].aL) a.ok.need a.ok.tX;rw[x,aD,bp];refine ⟨λe=>?_,λe=>?_⟩
   ·rw[aZ];refine v λw=>?_;have:=(w hs).fits
    simp_all
   ·simp only[iF,oE] at e;subst e;have K:=a.ok.kJ;refine vk st.ai[i].aF (λ_ d=>∃j∈st.ai,j.Id=d.aV) (λm g l y A=>?_) (λg y=>?_) (by omega)
    ·simp only[cK l,if_true,bV l,Option.bind_some,bS (show m<1000000 by omega)];have L:=a.ok.after _ (bC l);have E:=a.ok.id;refine (RX (by omega) J.bK (id:=st.ai[i].aF[m].aV) (by omega) J.ids).bind λr p=>?_;rw[bp];refine ⟨λe=>?_,λe=>A ?_⟩
     ·rw[aZ];refine v λw=>?_;have:=p.1.2 ((w hs).after _ (bC l))
      simp_all
     simp_all
    ·simp only[eC,bT,cn];exact u λ_=>⟨x,CW y⟩
 ·simp only[eC,bT,cn];exact qD h
structure LM (s:bm) (st:cf):Prop where
 len:(st.gF.length:Int)=s.aU
 use:∀x∈st.gF,0<=x/\x<=1099511627776
 qlen:st.aA.aj.length=s.aj.length
 nodes:0<=st.aA.am/\st.aA.am<=281474976710656
 stamps:∀x∈st.aA.aj,0<=x/\x<=281474976710656
theorem KV(l:List Int)(d:l.length<=300):fH (oP 5000 l) (∀x∈l,0<=x/\x<=1099511627776):=by
 simp only[oP];refine Oh l (λx=>0<=x/\x<=1099511627776) _ (λh=>h) (λi f a Q e g=>?_) (λf h=>?_) (by omega)
 ·simp only[cK a,if_true,bV a,Option.bind_some,bS (show i<1000000 by omega),bp,aZ,gq,br]
  grind
 ·simp only[eC,bT,cn];exact qD h
theorem Wb{s:bm}{st:cf}(j:lm s st):fH (oK 5000 s st) (LM s st):=by
 have m:=j.use;have n:=j.stamps;simp only[oK,dW,zdk,Option.bind_some,if_true];rw[fH,bp];refine ⟨λh=>cY λq=>?_,λh=>?_⟩
 ·simp only[Ip,ne_eq] at h;exact h q.len
 ·simp only[Ip,ne_eq,Ua] at h;refine (KV st.gF (by omega)).bind λr k=>?_;rw[bp];refine ⟨λa=>cY λq=>?_,λa=>?_⟩
  ·have:=k.2 q.use
   simp_all
  ·simp only[iF,oE] at a;rw[bp];refine ⟨λd=>cY λq=>?_,λd=>?_⟩
   ·simp only[Ip,ne_eq] at d
    grind [LM.qlen]
   ·simp only[Ip,ne_eq,Ua] at d;rw[bp];refine ⟨λe=>cY λq=>?_,λe=>?_⟩
    ·grind [LM.nodes]
    ·simp only[iF,oE,bH,br] at e;refine Oh st.aA.aj (λx=>0<=x/\x<=281474976710656) _ (λh=>h.stamps) (λi f l Q p t=>?_) (λf g=>?_) (by omega)
     ·simp only[cK l,if_true,bV l,Option.bind_some,bS (show i<1000000 by omega),bp,aZ,iF,yB0,yBf]
      grind
     ·simp only[eC,bT,cn];exact qD ⟨h,k.1 a,by omega,e,g⟩
theorem ref_use(l:List Int)(n:Int)(d:l.length<=300):fH (zeU 5000 l n) ((l.length:Int)=n/\∀x∈l,0<=x/\x<=1099511627776):=by
 simp only[zeU,dW];refine Oh l (λx=>0<=x/\x<=1099511627776) _ (λh=>h.2) (λi f a Q e g=>?_) (λf h=>?_) (by omega)
 ·simp only[cK a,if_true,bV a,Option.bind_some,bS (show i<1000000 by omega),bp,aZ,br]
  grind
 ·simp only[eC,bT,cn,aZ,nK]
  simp_all
theorem IY(x:Int):fH (zbi 5000 x) (0<=x/\x<=281474976710656):=by simp only[zbi,fH,aZ,bH,br,ge_iff_le]
end Go.Plain
end
section
namespace Go.Plain
open Go.Abs
structure dJ (l:List bW):Prop where
 ne:0<l.length
 inc:∀i (h:i+1<l.length),l[i].At<l[i+1].At
 each:∀s∈l,(0<=s.At/\s.At<=281474976710656)/\aM s.cu
theorem dJ.lt{l:List bW}(h:dJ l):∀{i j:Nat}(s:i<j)(u:j<l.length),l[i].At<l[j].At:=by
 intro i j s u;induction j with
 |zero=>omega
 |succ j ih=>
  have x:=h.inc j u
  grind
theorem dJ.le{l:List bW}(h:dJ l){i j:Nat}(s:i<=j)(x:j<l.length):l[i].At<=l[j].At:=by
 rcases XI s with u | u
 ·have:=h.lt u x;omega
 simp_all
theorem dJ.idx{l:List bW}(h:dJ l){i j:Nat}(u:i<l.length)(x:j<l.length)(e:l[i].At=l[j].At):i=j:=by
 rcases Vx i j with s | s | s
 ·have:=h.lt s x;omega
 ·exact s
 ·have:=h.lt s u;omega
theorem dJ.inj{l:List bW}(h:dJ l){a b:bW}(s:a∈l)(u:b∈l)(e:a.At=b.At):a=b:=by
 obtain ⟨i,x,rfl⟩:=ky s;obtain ⟨j,z,rfl⟩:=ky u;have:=h.idx x z e
 simp_all
def HR(l:List bW):Int:=l.foldl (λ_ s=>s.At) (-1)
theorem yR{l:List bW}{i:Nat}(h:i<l.length):HR (l.take (i+1))=l[i].At:=by rw[GN h,HR,List.foldl_append];rfl
def Ot(l:List bW)(i:Nat)(s:bW):Prop:=HR (l.take i)<s.At/\s.At<=281474976710656/\aM s.cu
theorem stOk_of{l:List bW}(e:0<l.length)(h:∀i (a:i<l.length),Ot l i l[i]):dJ l:=by
 have d:∀i (h:i+1<l.length),l[i].At<l[i+1].At:=λi a=>by
  have:=(h (i+1) a).1
  grind [yR]
 have f:∀i (a:i<l.length),0<=l[i].At:=by
  intro i;induction i with
  |zero=>intro a;have:=(h 0 a).1;grind [HR]
  |succ i ih=>grind
 exact ⟨e,d,CW (A:=λs=>(0<=s.At/\s.At<=281474976710656)/\aM s.cu) λi a=>⟨⟨f i a,(h i a).2.1⟩,(h i a).2.2⟩⟩
theorem dJ.cL{l:List bW}(h:dJ l)(i:Nat)(j:i<l.length):Ot l i l[i]:=by
 have e:=h.each _ (bC j);refine ⟨?_,e.1.2,e.2⟩
 match i,j with
 |0,j=>grind [HR]
 |i+1,j=>rw[yR (by omega)];exact h.inc i j
theorem MG(l:List bW)(t:l.length<=1000):fH (zea 5000 l) (dJ l):=by
 unfold zea;refine jb l.length (λi x=>x=(HR (l.take i),(i:Int))/\∀j (n:j<l.length),j<i->Ot l j l[j]) (λi x f a e p=>?_) (λx f e=>?_) ⟨rfl,λj _ h=>by omega⟩ (by omega)
 ·obtain ⟨rfl,s⟩:=e;simp only[dW];rw[if_pos (cK a),bV a,aD,bp];refine ⟨λh=>?_,λh=>?_⟩
  ·rw[if_pos trivial];refine cY λq=>?_;have:=q.cL i a;simp only[gq,br] at h;have:=this.1;have:=(q.cL i a).2.1;omega
  ·refine (TR _).bind λr d=>?_;rw[bp];refine ⟨λg=>cY λq=>?_,λg=>?_⟩
   ·have:=d.2 (q.cL i a).2.2
    simp_all
   ·simp only[iF,oE] at g;simp only[gq,br,not_or] at h;rw[bS (show i<1000000 by omega)];refine p _ ⟨by rw[yR a],λj n k=>?_⟩;rcases XI (yCe.1 k) with m | m
    ·simp_all
    ·subst m;exact ⟨by omega,by omega,d.1 g⟩
 ·obtain ⟨rfl,s⟩:=e;simp only;rw[if_neg (by simp),aZ,br]
  grind [stOk_of,dJ.ne]
theorem jF{l:List bW}(a:l.length<=1000)(h:dJ l):zea 5000 l=some true:=by
 obtain ⟨r,e,d⟩:=MG l a
 simp_all
structure Idx (l:List bW) (t:Int) (k:Nat):Prop where
 le:k<=l.length
 lo:∀i (h:i<l.length),i<k->l[i].At<=t
 hi:∀i (h:i<l.length),k<=i->t<l[i].At
theorem zcS{l:List bW}(s:l.length<=1000)(hs:dJ l)(t:Int):bM (fS 5000 l t) λr=>∃k,Idx l t k/\r=(k:Int)-1:=by
 unfold fS;rw[jV];refine lpM (λx=>∃i j:Nat,x=((i:Int),(j:Int))/\i<=j/\j<=l.length/\(∀k (h:k<l.length),k<i->l[k].At<=t)/\(∀k (h:k<l.length),j<=k->t<l[k].At)) (λx=>(x.2-x.1).toNat) (λx f q e=>?_) ⟨0,l.length,rfl,by omega,by omega,λk h hk=>by omega,λk h hk=>by omega⟩ (by omega);obtain ⟨i,j,rfl,u,g,m,n⟩:=q;rw[bp];dsimp only;refine ⟨λh=>?_,λh=>?_⟩
 ·simp only[br] at h;rw[mid (by omega)];have p:(i+j) / 2<l.length:=by omega
  rw[bV p,aD,aD,bp];refine ⟨λd=>?_,λd=>?_⟩
  ·simp only[iF,yBf] at d;rw[bS (by omega)];refine e _ ⟨(i+j) / 2+1,j,rfl,by omega,g,λk hk a=>?_,n⟩ (by omega);have:=hs.le (show k<=(i+j) / 2 by omega) p;omega
  ·simp only[iF,yBf] at d;refine e _ ⟨i,(i+j) / 2,rfl,by omega,by omega,m,λk hk a=>?_⟩ (by omega);have:=hs.le a hk;omega
 ·simp only[br] at h;have:i=j:=by omega
  subst this;simp only[aZ];exact ⟨i,⟨g,m,n⟩,by grind [wr]⟩
theorem Idx.pos{l:List bW}{t:Int}{k:Nat}(h:Idx l t k)(hs:dJ l)(i:(l[0]'hs.ne).At<=t):0<k:=by
 rcases Nat.eq_zero_or_pos k with e | e
 ·subst e;have:=h.hi 0 hs.ne (cU _);omega
 omega
def yE(l:List bW)(t:Int)(r:aE):Prop:=∃s∈l,s.At<=t/\(∀a∈l,a.At<=t->a.At<=s.At)/\s.cu=r
theorem yE.Bl{l:List bW}(hs:dJ l){t:Int}{r j:aE}(h:yE l t r)(u:yE l t j):r=j:=by obtain ⟨s,x,F,G,rfl⟩:=h;obtain ⟨z,i,A,E,rfl⟩:=u;have:s=z:=hs.inj x i (by grind);rw[this]
theorem yE.ok{l:List bW}(hs:dJ l){t:Int}{r:aE}(h:yE l t r):aM r:=by obtain ⟨s,i,_,_,rfl⟩:=h;exact (hs.each s i).2
theorem Idx.vat{l:List bW}{t:Int}{k:Nat}(h:Idx l t (k+1))(hs:dJ l)(hk:k<l.length):yE l t l[k].cu:=by
 refine ⟨l[k],bC hk,h.lo k hk (by omega),λs Rq u=>?_,rfl⟩;obtain ⟨i,j,rfl⟩:=ky Rq;by_cases q:i<=k
 ·exact hs.le q hk
 ·have:=h.hi i j (by omega);omega
end Go.Plain
end
section
namespace Go.Plain
open Go.Abs
structure Gp (L:List aE) (r:aE):Prop where
 le:∀v∈L,∀c,cmp c r<=cmp c v
 cL:∀c,∃v∈L,cmp c v=cmp c r
def tR(a b:aE):aE:={ bL:=if b.bL<a.bL then b.bL else a.bL,Mem:=if b.Mem<a.Mem then b.Mem else a.Mem,bO:=if b.bO<a.bO then b.bO else a.bO,bR:=if b.bR<a.bR then b.bR else a.bR }
theorem Hz(c:Nat)(a b:aE):cmp c (tR a b)=if cmp c b<cmp c a then cmp c b else cmp c a:=by match c with | 0=>rfl | 1=>rfl | 2=>rfl | _+3=>rfl
theorem WE(a b:aE):zdL 5000 a b=some (tR a b):=by
 have d:∀x y:Int,zcE 5000 x y=some (if y<x then y else x):=λx y=>by
  unfold zcE
  grind
 simp only[zdL,d,Option.bind_some,tR]
theorem Gp.one(v:aE):Gp [v] v:=⟨λw i c=>by simp_all,λc=>⟨v,by simp,rfl⟩⟩
theorem Gp.add{L:List aE}{r:aE}(h:Gp L r)(v:aE):Gp (L++[v]) (tR r v):={
 le:=λw hw c=>by
  rw[Hz];rcases nj.1 hw with hw | hw
  ·have:=h.le w hw c;omega
  grind
 cL:=λc=>by
  rw[Hz];split
  ·simp_all
  ·obtain ⟨w,hw,e⟩:=h.cL c;grind }
structure PE (V:Int->aE->Prop) (a b:Int) (r:aE):Prop where
 le:∀t v,a<=t->t<b->V t v->∀c,cmp c r<=cmp c v
 cL:∀c,∃t v,a<=t/\t<b/\V t v/\cmp c v=cmp c r
theorem PE.Bl{V:Int->aE->Prop}{a b:Int}{r u:aE}(h:PE V a b r)(x:PE V a b u):r=u:=dU λc=>by obtain ⟨t,v,z,A,E,e⟩:=h.cL c;obtain ⟨F,G,i,j,s,K⟩:=x.cL c;have:=h.le F G i j s c;have:=x.le t v z A E c;omega
theorem PE.iff{V W:Int->aE->Prop}{a b:Int}{r:aE}(h:PE V a b r)(u:∀t v,a<=t->(V t v↔W t v)):PE W a b r:=
 ⟨λt v i j s=>h.le t v i j ((u t v i).2 s),λc=>by obtain ⟨t,v,i,j,s,e⟩:=h.cL c;grind⟩
theorem fZ{α:Type}{l:List α}{i:Nat}(h:i<=l.length):slice? l (i:Int) (l.length:Int)=some (l.drop i):=by
 unfold slice?
 simp_all
theorem Ma{l:List bW}(A:l.length<=1000)(hs:dJ l){a b:Int}(E:(l[0]'hs.ne).At<=a)(u:a<b):bM (oH 5000 l a b) (PE (yE l) a b):=by
 unfold oH;simp only[dW];rw[jF A hs,aD,if_neg (by simp)];rw[show (0:Int)=((0:Nat):Int) from rfl,bV hs.ne,aD,if_neg (by simp_all)];refine (zcS A hs a).bind λr y=>?_;obtain ⟨k,hk,rfl⟩:=y;have W:=hk.pos hs E;have F:=hk.le;obtain ⟨m,rfl⟩:∃m,k=m+1:=⟨k-1,by omega⟩;rw[show ((m+1:Nat):Int)-1=(m:Int) by omega,bV (show m<l.length by omega),aD,bS (by omega),fZ (by omega),aD];have fin:∀(n:Nat)(v:aE),n<=(l.drop (m+1)).length->(∀(j:Nat)(h:j<(l.drop (m+1)).length),j<n->(l.drop (m+1))[j].At<b)->(∀(j:Nat)(h:j<(l.drop (m+1)).length),n<=j->b<=(l.drop (m+1))[j].At) ->
   Gp (l[m].cu::((l.drop (m+1)).take n).map (·.cu)) v->PE (yE l) a b v:=λn v Y G Z d=>by
  have len:(l.drop (m+1)).length=l.length-(m+1):=yBK ..;refine ⟨λt w ht K hw c=>?_,λc=>?_⟩
  ·obtain ⟨s,L,q2,M,rfl⟩:=hw;obtain ⟨i,q,rfl⟩:=ky L;have hm:=M l[m] (bC _) (by have:=hk.lo m (by omega) (by omega);omega);refine d.le _ ?_ c;by_cases e:i=m
   ·simp_all
   ·have N:m<i:=by
     rcases Vx i m with h | h | h
     ·have:=hs.lt h (by omega);omega
     ·omega
     omega
    have O:i-(m+1)<n:=by grind
    refine pM _ (iQ.2 ⟨l[i],?_,rfl⟩)
    grind [List.mem_iff_getElem]
  ·obtain ⟨w,hw,e⟩:=d.cL c;rcases gn.1 hw with rfl | hw
   ·exact ⟨a,_,PT _,u,hk.vat hs (by omega),e⟩
   ·obtain ⟨s,Rq,rfl⟩:=iQ.1 hw;obtain ⟨j,g,rfl⟩:=Oe.1 Rq;rw[Cs] at g;rw[Sn] at e Rq;have p:=G j (by omega) (by omega);rw[yBT] at e p;have ha:=hk.hi (m+1+j) (by omega) (by omega);refine ⟨l[m+1+j].At,_,by omega,p,⟨l[m+1+j],bC _,PT _,λs' _ h=>h,rfl⟩,e⟩
 refine jb (l.drop (m+1)).length (λi x=>∃v:aE,x=((i:Int),v.bL,v.Mem,v.bO,v.bR)/\Gp (l[m].cu::((l.drop (m+1)).take i).map (·.cu)) v/\∀j (h:j<(l.drop (m+1)).length),j<i->(l.drop (m+1))[j].At<b) (λi x f q z y=>?_) (λx f z=>?_)
  ⟨l[m].cu,rfl,Gp.one _,λj _ h=>by omega⟩ (by grind)
 ·obtain ⟨v,rfl,d,p⟩:=z;have S:m+1+i<l.length:=by grind
  dsimp only;rw[if_pos (cK q),bV q,aD,bp];refine ⟨λh=>?_,λh=>?_⟩
  ·simp only[br] at h;rw[aZ];refine fin i v (yCb q) p (λj g T=>?_) d;rw[yBT] at h ⊢;have:=hs.le (show m+1+i<=m+1+j by omega) (by grind);omega
  ·simp only[br] at h;rw[show ∀b,AO 5000 ({ bL:=v.bL,Mem:=v.Mem,bO:=v.bO,bR:=v.bR }:aE) b=some (tR v b) from λb=>rfl,aD,bS (show i<1000000 by omega)];refine y _ ⟨tR v (l.drop (m+1))[i].cu,rfl,?_,λj g U=>?_⟩
   ·rw[GN q,yBH,<-List.cons_append];exact d.add _
   grind
 ·obtain ⟨v,rfl,d,p⟩:=z;dsimp only;rw[if_neg (by simp),aZ];exact fin _ v (cU _) (λj g h=>p j g h) (λj g h=>by omega) d
structure Kept (l r:List bW):Prop where
 ok:dJ r
 len:r.length<=l.length
 first:∀(h:0<l.length)(h':0<r.length),r[0].At=l[0].At
 sub:∀s∈r,s∈l
 val:∀t v,yE l t v->yE r t v
theorem eE{l:List bW}{i:Nat}(a:i<l.length){s:bW}:s∈l.take (i+1)↔s∈l.take i∨s=l[i]:=by rw[GN a,nj,AQ]
theorem yE.take{l:List bW}{i:Nat}(x:i<l.length)(hs:dJ l){t:Int}{v:aE}(h:yE (l.take (i+1)) t v):(l[i].At<=t/\v=l[i].cu)∨(t<l[i].At/\yE (l.take i) t v):=by
 obtain ⟨s,z,A,u,rfl⟩:=h;rw[GN x] at z u;by_cases q:l[i].At<=t
 ·left;refine ⟨q,?_⟩;have E:=u l[i] (yBz _ (AQ.2 rfl)) q;rcases nj.1 z with h | h
  ·obtain ⟨j,F,rfl⟩:=Oe.1 h;rw[Cs] at F;rw[Sn] at E ⊢;have:=hs.lt (show j<i by omega) x;omega
  simp_all
 ·right;refine ⟨by omega,s,?_,A,λG K=>u G (yB4 _ K),rfl⟩
  grind
theorem WH{l:List bW}(hs:dJ l){s:bW}(h:∀x∈l,x.At<s.At)(f:(0<=s.At/\s.At<=281474976710656)/\aM s.cu):dJ (l++[s]):=by
 have:=hs.ne;refine ⟨by simp,λi d=>?_,λx a=>?_⟩
 ·rw[AG,List.length_singleton] at d;rw[yCc (show i<l.length by omega)];by_cases e:i+1<l.length
  ·rw[yCc e];exact hs.inc i e
  simp_all
 ·rcases nj.1 a with a | a
  ·exact hs.each x a
  simp_all
theorem Ni{l:List bW}(G:l.length<=1000)(hs:dJ l):bM (oC 5000 l) (Kept l):=by
 have m:=hs.ne;unfold oC;rw[jF G hs,aD,if_neg (by simp)];rw[show (0:Int)=((0:Nat):Int) from rfl,bV m,aD];rw[show slice? l 1 (l.length:Int)=some (l.drop 1) from fZ m,aD];have S:(l.drop 1).length=l.length-1:=yBK ..;refine jb (l.drop 1).length (λi x=>x.1=(i:Int)/\Kept (l.take (i+1)) x.2/\∃(h:0<x.2.length)(z:i<l.length),x.2[x.2.length-1].cu=l[i].cu) (λi x f z r T=>?_) (λx f r=>?_) ?_ (by omega)
 ·obtain ⟨y,a⟩:=x;obtain ⟨rfl,hk,g,A,d⟩:=r;dsimp only at hk g d ⊢;have k:i+1<l.length:=by omega
  have u:=hk.len;rw[Cs] at u;have L:(l.drop 1)[i]=l[i+1]:=by simp_all
  simp only[dW];rw[if_pos (cK z),bV z,aD,L,wr (x:=(a.length:Int)-1) (by omega) (by omega),show (a.length:Int)-1=((a.length-1:Nat):Int) by omega,bV (show a.length-1<a.length by omega),aD,bS (show i<1000000 by omega),d];have n:∀x∈a,x.At<l[i+1].At:=λx r=>by have:=hk.sub x r;obtain ⟨j,E,rfl⟩:=Oe.1 this;rw[Cs] at E;rw[Sn];exact hs.lt (by omega) k
  rw[bp];refine ⟨λh=>?_,λh=>?_⟩
  ·rw[Aw (by grind),aD];have K:Kept (l.take (i+1+1)) (a++[l[i+1]]):=by
    refine ⟨WH hk.ok n (hs.each _ (bC _)),by grind,λh w=>?_,λs Rq=>?_,λt v p=>?_⟩
    ·have:=hk.first (by grind) g
     simp_all
    ·rcases nj.1 Rq with q | q
     ·exact (eE k).2 (.inl (hk.sub s q))
     grind [eE]
    ·rcases p.take k hs with ⟨q,rfl⟩ | ⟨q,p⟩
     ·exact ⟨l[i+1],yBz _ (AQ.2 rfl),q,λF w _=>by grind,rfl⟩
     ·obtain ⟨s,M,N,U,O⟩:=hk.val t v p;exact ⟨s,yB4 _ M,N,λF w W=>by grind,O⟩
   simp_all
  ·have e:l[i+1].cu=l[i].cu:=by
    simp only[iF,oE] at h;simp only[bW.beq,bH,nK,gP] at h
    simp_all
   have K:Kept (l.take (i+1+1)) a:=by
    refine ⟨hk.ok,by grind,λh w=>?_,λs Rq=>(eE k).2 (.inl (hk.sub s Rq)),λt v p=>?_⟩
    ·have:=hk.first (by grind) g
     simp_all
    ·rcases p.take k hs with ⟨q,rfl⟩ | ⟨q,p⟩
     ·refine ⟨a[a.length-1],bC _,by grind,λF w _=>?_,by simp_all⟩;obtain ⟨j,E,rfl⟩:=ky w;exact hk.ok.le (by omega) (by omega)
     ·exact hk.val t v p
   simp_all
 ·obtain ⟨y,a⟩:=x;obtain ⟨rfl,hk,g,A,d⟩:=r;dsimp only at hk ⊢;rw[if_neg (by simp),aZ]
  grind
 ·have e:l.take 1=[l[0]]:=by grind [List.take_succ_eq_append_getElem]
  refine ⟨rfl,?_,by simp,m,rfl⟩;rw[SV,e];refine ⟨⟨by simp,λi h=>by simp at h,λs h=>by simp at h;subst h;exact hs.each _ (bC _)⟩,by simp,λ_ _=>rfl,λs h=>h,λt v h=>h⟩
end Go.Plain
end
section
namespace Go.Plain
open Go.Abs
theorem dJ.pw{l:List bW}(h:dJ l):l.Pairwise λa b=>a.At<b.At:=yAZ.2 λi j x u s=>h.lt s u
theorem stOk_pw{l:List bW}(d:0<l.length)(h:l.Pairwise λa b=>a.At<b.At)(e:∀s∈l,(0<=s.At/\s.At<=281474976710656)/\aM s.cu):dJ l:=
 ⟨d,λi f=>yAZ.1 h i (i+1) (by omega) f (by omega),e⟩
theorem yE.ex{l:List bW}(hs:dJ l){t:Int}(x:(l[0]'hs.ne).At<=t):∃v,yE l t v:=by
 have:∀n,0<n->n<=l.length->∃v,yE (l.take n) t v:=by
  intro n;induction n with
  |zero=>omega
  |succ n ih=>
   intro _ K;rcases Nat.eq_zero_or_pos n with rfl | z
   ·refine ⟨l[0].cu,l[0],?_,x,λu i _=>?_,rfl⟩
    ·grind [eE]
    ·rcases (eE (show 0<l.length by omega)).1 i with i | e
     ·grind
     simp_all
   ·obtain ⟨v,s,A,E,M,F⟩:=ih z (by omega);by_cases q:l[n].At<=t
    ·refine ⟨l[n].cu,l[n],(eE (by omega)).2 (.inr rfl),q,λu i _=>?_,rfl⟩;rcases (eE (show n<l.length by omega)).1 i with i | e
     ·obtain ⟨j,G,rfl⟩:=Oe.1 i;rw[Cs] at G;rw[Sn];exact hs.le (by omega) (by omega)
     simp_all
    ·refine ⟨v,s,(eE (by omega)).2 (.inl A),E,λu i O=>?_,F⟩
     grind [eE]
 have:=this l.length hs.ne (cU _)
 simp_all
theorem insS_ok{l:List bW}(a:l.length<=2000)(x:bW){k:Nat}(hk:k<=l.length):zaT 5000 l [x] (k:Int)=some (l.take k++[x]++l.drop k):=by
 unfold zaT zaC;rw[fZ hk,aD,if_neg (by simp)];by_cases e:k=l.length
 ·subst e;rw[if_pos (by simp),Aw (by grind),aD];simp[orE]
 ·rw[if_neg (by grind)];unfold orE NA
  grind
structure CutOk (l:List bW) (t:Int) (r:List bW):Prop where
 ok:dJ r
 len:r.length<=l.length+1
 first:∀(h:0<l.length)(h':0<r.length),r[0].At=l[0].At
 val:∀u v,yE l u v->yE r u v
 cL:∃s∈r,s.At=t
 Vr:∀s∈l,s∈r
theorem lO{l:List bW}(A:l.length<=1000)(hs:dJ l){t:Int}(E:(l[0]'hs.ne).At<=t)(W:t<=281474976710656):bM (pU 5000 l t) (CutOk l t):=by
 unfold pU;refine (zcS A hs t).bind λr F=>?_;obtain ⟨k,hk,rfl⟩:=F;have Y:=hk.pos hs E;have i:=hk.le;obtain ⟨m,rfl⟩:∃m,k=m+1:=⟨k-1,by omega⟩;have d:m<l.length:=by omega
 unfold zaW;rw[show ((m+1:Nat):Int)-1=(m:Int) by omega,xQ (by omega),aD,bV d,aD,bp];refine ⟨λh=>?_,λh=>?_⟩
 ·simp only[nK] at h;exact aZ.2 ⟨hs,by omega,λ_ _=>rfl,λu v h=>h,⟨_,bC d,h⟩,λs h=>h⟩
 ·simp only[nK] at h;have G:=hk.lo m d (by omega);have Z:=hs.each _ (bC d);rw[aD,bS (show m<1000000 by omega),insS_ok (by omega) _ i,aD,aZ];generalize hx:({ At:=t,cu:=l[m].cu }:bW)=x;have K:x.At=t:=by grind
  have L:x.cu=l[m].cu:=by grind
  have hA:∀s∈l.take (m+1),s.At<t:=λs Rq=>by obtain ⟨j,e,rfl⟩:=Oe.1 Rq;rw[Cs] at e;rw[Sn];have:=hs.le (show j<=m by omega) d;omega
  have hB:∀s∈l.drop (m+1),t<s.At:=λs Rq=>by obtain ⟨j,e,rfl⟩:=Oe.1 Rq;rw[yBK] at e;rw[yBT];exact hk.hi _ (by omega) (by omega)
  have n:l=l.take (m+1)++l.drop (m+1):=(NW ..).symm;have f:=hs.pw;rw[n] at f;obtain ⟨p1,M,p3⟩:=Od.1 f;have mem:∀s,s∈l.take (m+1)++[x]++l.drop (m+1)↔s∈l∨s=x:=λs=>by
   constructor
   ·grind
   grind
  refine ⟨stOk_pw (by grind) (Od.2 ⟨Od.2 ⟨p1,by simp,λa N b O=>?_⟩,M,λa N b O=>?_⟩) λs h=>?_,?_,λh p=>?_,λu v S=>?_,⟨x,(mem x).2 (.inr rfl),K⟩,λs h=>(mem s).2 (.inl h)⟩
  ·grind
  ·grind
  ·rcases (mem s).1 h with h | rfl
   ·exact hs.each s h
   grind
  ·grind
  ·grind
  ·obtain ⟨s,g,w,T,rfl⟩:=S;by_cases q:t<=u
   ·have U:=T l[m] (bC d) (by omega);by_cases q2:s.At<t
    ·have:s=l[m]:=by
      obtain ⟨j,e,rfl⟩:=ky g;have:j<=m:=by
       rcases rZ m j with h | h
       ·have:=hk.hi j e (by omega);omega
       omega
      have:=hs.le this d;exact hs.inj g (bC d) (by omega)
     subst this;exact ⟨x,(mem x).2 (.inr rfl),by omega,λy p z=>by grind,L⟩
    ·exact ⟨s,(mem s).2 (.inl g),w,λy p z=>by grind,rfl⟩
   ·exact ⟨s,(mem s).2 (.inl g),w,λy p z=>by grind,rfl⟩
theorem XE:kB=pU:=rfl
def uI(out:List bW)(need:aE)(lo a:Nat):List bW:=out.mapIdx λj s=>if lo<=j/\j<a then { At:=s.At,cu:=fo s.cu need } else s
theorem RP{out:List bW}{need:aE}{lo a:Nat}:(uI out need lo a).length=out.length:=by simp[uI]
theorem kk{out:List bW}{need:aE}{lo a j:Nat}(h:j<(uI out need lo a).length):(uI out need lo a)[j]=if lo<=j/\j<a then { At:=(out[j]'(by grind [RP])).At,cu:=fo (out[j]'(by grind [RP])).cu need } else out[j]'(by grind [RP]):=by grind [uI]
theorem vH{out:List bW}{need:aE}{lo a j:Nat}(h:j<(uI out need lo a).length):(uI out need lo a)[j].At=(out[j]'(by grind [RP])).At:=by grind [kk]
theorem ZJ(out:List bW)(need:aE)(lo:Nat):uI out need lo lo=out:=yBW RP λj a d=>by rw[kk,if_neg (by omega)]
theorem Zx{out:List bW}{need:aE}{lo i:Nat}(h:lo+i<out.length):(uI out need lo (lo+i)).set (lo+i) { At:=out[lo+i].At,cu:=fo out[lo+i].cu need }=uI out need lo (lo+(i+1)):=yBW (by simp[RP]) λj a d=>by
 rw[List.getElem_set];split
 ·rename_i e;subst e;rw[kk,if_pos ⟨by omega,by omega⟩]
 ·rw[kk,kk]
  grind
def xE(a b:aE):Prop:=∀c,cmp c a<=cmp c b
theorem subR_ok{a b:aE}(d:aM a)(e:aM b)(h:xE b a):aM (fo a b):=vY.2 λc=>by have:=vY.1 d c;have:=vY.1 e c;have:=h c;rw[Cq];omega
structure OC (l:List bW) (a b:Int) (need:aE) (r:List bW):Prop where
 ok:dJ r
 len:r.length<=l.length+2
 first:∀(h:0<l.length)(h':0<r.length),r[0].At=l[0].At
 val:∀t v,yE l t v->yE r t (if a<=t/\t<b then fo v need else v)
theorem xL{l:List bW}(hl:l.length<=900)(hs:dJ l){a b:Int}{need:aE}(L:aM need)(h0:(l[0]'hs.ne).At<=a)(ab:a<b)(hb:b<=281474976710656)
  (u:∀t v,a<=t->t<b->yE l t v->xE need v):bM (mV 5000 l a b need) λr=>r.2=0/\OC l a b need r.1:=by
 unfold mV zd0;have w:=hs.ne;obtain ⟨rn,en,M⟩:=TR need;have:=M.2 L;subst this;simp only[dW];rw[jF (by omega) hs,aD,if_neg (by simp),en,aD,if_neg (by simp)];rw[show (0:Int)=((0:Nat):Int) from rfl,bV w,aD,if_neg (by simp_all),XE];rw[jV];refine (lO (by omega) hs h0 (by omega)).bind λo1 c1=>?_;have W:=c1.ok.ne;have f1:=c1.first w W;have l1:=c1.len;refine (lO (by omega) c1.ok (t:=b) (by omega) hb).bind λout g=>?_;have n2:=g.ok.ne;have f2:=g.first W n2;have l2:=g.len;obtain ⟨sa,N,ad⟩:=c1.cL;obtain ⟨d,m,af⟩:=ky (g.Vr sa N);obtain ⟨sb,O,ak⟩:=g.cL;obtain ⟨e,he,eb⟩:=ky O;have aa:out[d].At=a:=by simp_all
 have bb:out[e].At=b:=by simp_all
 have val:∀t v,yE l t v->yE out t v:=λt v h=>g.val t v (c1.val t v h);have S:∀j (h:j<out.length),a<=out[j].At->out[j].At<b->aM (fo out[j].cu need):=λj h y A=>by obtain ⟨v,E⟩:=yE.ex hs (t:=out[j].At) (by omega);have:=(val _ _ E).Bl g.ok ⟨out[j],bC h,PT _,λs' _ h=>h,rfl⟩;subst this;exact subR_ok (E.ok hs) L (u _ _ y A E)
 refine (zcS (by omega) g.ok a).bind λr p=>?_;obtain ⟨k,hk,rfl⟩:=p;have hp:=hk.pos g.ok (by omega);have an:=hk.le;have hm:k=d+1:=by
  rcases Vx k (d+1) with h | h | h
  ·have:=hk.hi d m (by omega);omega
  ·exact h
  ·have:=hk.lo (k-1) (by omega) (by omega);have:=g.ok.lt (show d<k-1 by omega) (by omega);omega
 subst hm;have av:d<e:=by
  rcases Vx d e with h | h | h
  ·exact h
  ·simp_all
  ·have:=g.ok.lt h m;omega
 rw[show ((d+1:Nat):Int)-1=(d:Int) by omega];have mid:∀j (h:j<out.length),d<=j->j<e->a<=out[j].At/\out[j].At<b:=λj h y A=>by have:=g.ok.le y h;have:=g.ok.lt A he;omega
 refine jb (e-d) (λi x=>x=(((d+i:Nat):Int),uI out need d (d+i))) (λi x f hi T p=>?_) (λx f T=>?_) (by rw[Nat.add_zero,ZJ]) (by omega)
 ·subst T;have n:d+i<out.length:=by omega
  obtain ⟨y,A⟩:=mid (d+i) n (by omega) (by omega);have F:(uI out need d (d+i))[d+i]'(by grind [RP])=out[d+i]:=by rw[kk,if_neg (by omega)]
  dsimp only;rw[bV (show d+i<(uI out need d (d+i)).length by grind),aD,F,if_pos (by simp_all),aD];refine (XL (g.ok.each _ (bC n)).2 L).bind λr G=>?_;have z:=G.1.2 (S _ n y A);rw[if_neg (by simp[z]),aD,G.2 z,bS (show d+i<1000000 by omega)]
  grind [Zx]
 ·subst T;rw[show d+(e-d)=e by omega];dsimp only;rw[bV (show e<(uI out need d e).length by grind [RP]),aD,vH,if_neg (by simp_all)];have Y:dJ (uI out need d e):=by
   refine ⟨by grind [RP],λi h=>?_,λs h=>?_⟩
   ·rw[vH,vH];exact g.ok.inc i (by grind [RP])
   ·obtain ⟨j,n,rfl⟩:=ky h;have K:=n;rw[RP] at K;have ej:=g.ok.each _ (bC K)
    grind [kk]
  refine (Ni (by grind [RP]) Y).bind λr p=>?_;rw[aZ,aZ];have rl:=p.len;rw[RP] at rl;refine ⟨rfl,p.ok,by grind,λh Z=>?_,λt v E=>p.val _ _ ?_⟩
  ·have:=p.first Y.ne Z
   grind [vH]
  ·obtain ⟨s,h1,h2,h3,rfl⟩:=val t v E;obtain ⟨j,n,rfl⟩:=ky h1;have U:j<(uI out need d e).length:=by grind [RP]
   refine ⟨(uI out need d e)[j],bC U,by grind [vH],λs' Z ht=>?_,?_⟩
   ·grind [List.getElem_of_mem,vH]
   ·rw[kk];have ka:a<=t↔d<=j:=by
     constructor
     ·intro h;have:=h3 out[d] (bC m) (by omega);rcases rZ j d with q | q
      ·have:=g.ok.lt q m;omega
      omega
     ·intro h;have:=g.ok.le h n;omega
    have kb:t<b↔j<e:=by
     constructor
     ·intro h;rcases rZ j e with q | q
      ·exact q
      ·have:=g.ok.le q n;omega
     grind
    grind
end Go.Plain
end
