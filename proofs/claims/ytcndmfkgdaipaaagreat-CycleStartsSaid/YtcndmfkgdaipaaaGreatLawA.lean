/- Lemmas. -/
import Derived.Test.YtcndmfkgdaipaaaGreatTyPure
import Derived.KernelRfl
import Derived.Laws.BitsLemmas
set_option linter.all false
open Go.IntKind (i64 u64)
section
namespace Go.Plain
open Go.Abs
instance glT:Gl:={ ok:=λ_ _=>True,mono:=λ_ _=>trivial }
theorem wr{x:Int}(a:-9223372036854775808<=x)(d:x<9223372036854775808):i64.wrap x=x:=by rw[IntKind.wrap_i64];omega
theorem bV{i:Nat}(h:i<1000000):i64.wrap ((i:Int)+1)=((i+1:Nat):Int):=by grind [wr]
def wp1{i:Nat}(h:i+1<1000000):i64.wrap (((i+1:Nat):Int)-1)=(i:Int):=by grind [wr]
theorem bY{α:Type}{l:List α}{i:Nat}(h:i<l.length):aD l (i:Int)=some l[i]:=by
 unfold aD
 simp_all
theorem AV{α:Type}{l:List α}{x:Int}(d:0<=x)(h:x<l.length):∃a:x.toNat<l.length,aD l x=some (l[x.toNat]'a):=by
 have a:x.toNat<l.length:=by omega
 refine ⟨a,?_⟩;unfold aD
 simp_all
theorem cS{i n:Nat}(h:i<n):decide ((i:Int)<(n:Int))=true:=by simp_all
theorem eR{n:Nat}:decide ((n:Int)<(n:Int))=false:=by simp
theorem ze{α:Type}{l m:List α}(h:l.length+m.length<=1000000):cB l m=some (l++m):=by unfold cB;simp_all
theorem Eh{α:Type}{m:List α}(h:m.length<=1000000):cB [] m=some m:=by grind [ze]
theorem eE{X R:Type}(r:X->Option R)(b:(X->Option R)->Option R):jn r b=b r:=rfl
def bQ{β:Type}(o:Option β)(Q:β->Prop):Prop:=∃r,o=some r/\Q r
abbrev fe(o:Option Bool)(P:Prop):Prop:=bQ o λb=>b=true↔P
section
variable{α β γ Y:Type}{o:Option α}{P Q:α->Prop}
theorem bQ.mono(h:bQ o P)(i:∀r,P r->Q r):bQ o Q:=by obtain ⟨r,j,s⟩:=h;exact ⟨r,j,i r s⟩
def bQ.bind{f:α->Option β}{R:β->Prop}(h:bQ o P)(i:∀r,P r->bQ (f r) R):bQ (o.bind f) R:=by obtain ⟨r,rfl,j⟩:=h;simp_all
theorem aY{r:α}:bQ (some r) Q↔Q r:=by simp[bQ]
def ki{f:α->Option β}{R:β->Prop}:bQ (o.bind f) R↔bQ o λr=>bQ (f r) R:=by cases o <;> simp[bQ]
theorem bq{c:Prop}[Decidable c]{a b:Option α}:bQ (if c then a else b) Q↔(c->bQ a Q)/\(¬c->bQ b Q):=by grind
theorem bQ.eq{r:α}(h:bQ o λx=>x=r):o=some r:=by obtain ⟨_,h,rfl⟩:=h;exact h
end
section
variable{X R α:Type}{b:(X->Option R)->X->Option R}{Q:R->Prop}
theorem iL(n:Nat)(Inv:Nat->X->Prop)(hs:∀i x f,i<n->Inv i x->(∀d,Inv (i+1) d->bQ (f d) Q)->bQ (b f x) Q)
  (j:∀x f,Inv n x->bQ (b f x) Q) {g:X} (l:Inv 0 g) {N:Nat} (m:n<N):bQ (bB b N g) Q:=by
 have:∀k i x,i<=n->n<i+k->Inv i x->bQ (bB b k x) Q:=by
  intro k;induction k with
  |zero=>omega
  |succ k ih=>
   intro i x h p hi;rcases VX h with a | rfl
   ·exact hs i x _ a hi λd e=>ih (i+1) d a (by omega) e
   ·exact j x _ hi
 grind
end
section
variable{R α:Type}{b:(Int->Option R)->Int->Option R}{Q:R->Prop}
theorem xX(l:List α)(A:Nat->α->Prop)
  (hs:∀i (f:Int->Option R) (h:i<l.length),(∀j (a:j<l.length),j<i->A j l[j])->(A i l[i]->bQ (f ((i+1:Nat):Int)) Q)->bQ (b f (i:Int)) Q)
  (k:∀f,(∀j (a:j<l.length),A j l[j])->bQ (b f (l.length:Int)) Q) {N:Nat} (d:l.length<N):bQ (bB b N 0) Q:=
 iL l.length (fun i x=>x=(i:Int)/\∀j (a:j<l.length),j<i->A j l[j])
  (fun i x f hi ⟨e,g⟩ m=>by
   grind)
  (fun x f ⟨e,g⟩=>by simp_all) ⟨rfl,fun j a h=>absurd h (by omega)⟩ d
end
def De{α:Type}{l:List α}{A:α->Prop}(h:∀j (d:j<l.length),A l[j]):∀a∈l,A a:=λa e=>by grind [List.getElem_of_mem]
def LH{α:Type}{b:(Int->Option Bool)->Int->Option Bool}(l:List α)(A:α->Prop)(P:Prop)(j:P->∀a∈l,A a)
  (hs:∀(i:Nat)(f:Int->Option Bool)(h:i<l.length)(Q:Bool->Prop),(A l[i]->bQ (f ((i+1:Nat):Int)) Q)->(¬A l[i]->Q false)->bQ (b f (i:Int)) Q)
  (d:∀f,(∀a∈l,A a)->fe (b f (l.length:Int)) P) {N:Nat} (e:l.length<N):fe (bB b N 0) P:=
 xX l (λ_ a => A a) (λi f h _ g => hs i f h _ g λk => by
   grind)
  (λf h=>d f (De h)) e
structure iE (s:aX):Prop where
 nodes:s.am.length<=40
 parts:s.aG.length<=20
 eH:s.aq.length<=20
 part:∀p∈s.aG,p.length<=40
 queue:∀q∈s.aq,q.aP.length<=40
def few07(s:aX):bQ (ze4 5000 s) λr=>r=true->iE s:=by
 simp only[ze4,bq,aY];refine ⟨by simp,λh=>?_⟩;simp only[gE,bz,not_or,Int.not_lt] at h;obtain ⟨⟨g,j⟩,k⟩:=h;refine xX s.aG (λ_ q=>q.length<=40) (λi f h _ a=>?_) (λf d=>?_) (by omega)
 ·simp only[cS h,if_true,bY h,aw,bV (show i<1000000 by omega),bq,aY,bz]
  grind
 ·simp only[eR,b_,cw];refine xX s.aq (λ_ q=>q.aP.length<=40) (λi f h _ a=>?_) (λf e=>?_) (by omega)
  ·simp only[cS h,if_true,bY h,aw,bV (show i<1000000 by omega),bq,aY,bz]
   grind
  ·simp only[eR,b_,cw,aY];exact λ_=>⟨by omega,by omega,by omega,De d,De e⟩
def few17(l:List aJ):bQ (zeZ 5000 l) λr=>r=true->l.length<=30/\∀j∈l,j.aE.length<=10:=by
 simp only[zeZ,bq,aY];refine ⟨by simp,λh=>?_⟩;simp only[bz] at h;refine xX l (λ_ q=>q.aE.length<=10) (λi f h _ d=>?_) (λf a=>?_) (by omega)
 ·simp only[cS h,if_true,bY h,aw,bV (show i<1000000 by omega),bq,aY,bz]
  grind
 ·simp only[eR,b_,cw,aY];exact λ_=>⟨by omega,De a⟩
structure kF (s:aX) (st:bZ):Prop where
 spec:iE s
 bm:st.ah.length<=300
 after:∀j∈st.ah,j.aE.length<=10
 cr:st.ai.length<=300
 cF:st.aA.length<=20
 use:st.eJ.length<=20
 stamps:st.az.aq.length<=20
 shares:∀a∈st.ai,a.aj.length<=40
def kF.sh{s:aX}{st:bZ}(h:kF s st):∀a∈st.ai,a.aj.length<=300:=λa i=>jk (h.shares a i) (by decide)
def few23(s:aX)(st:bZ):bQ (zcL 5000 s st) λr=>r=true->kF s st:=by
 simp only[zcL,eE];refine (few07 s).bind λr d=>?_;simp only[if_true,aY,bq];refine ⟨by simp,λh=>?_⟩;refine (few17 st.ah).bind λk a=>?_;simp only[hZ,nI] at h;have g:=d h;simp only[bq,aY];refine ⟨by simp,λh=>?_⟩;simp only[gE,bz,not_or,Int.not_lt,hZ,nI] at h;obtain ⟨⟨⟨⟨h,l⟩,m⟩,n⟩,p⟩:=h;have e:=a h;refine xX st.ai (λ_ q=>q.aj.length<=40) (λi f h _ d=>?_) (λf j=>?_) (by omega)
 ·simp only[cS h,if_true,bY h,aw,bV (show i<1000000 by omega),bq,aY,bz]
  grind
 ·simp only[eR,b_,cw,aY];exact λ_=>⟨g,jk e.1 (by decide),e.2,by omega,by omega,by omega,by omega,De j⟩
def OC(a hi x:Int):Bool:=decide (a<=x)&&decide (x<=hi)
structure aN (r:aF):Prop where
 FL:0<=r.bI/\r.bI<=1048576
 mem:0<=r.Mem/\r.Mem<=1048576
 KD:0<=r.bM/\r.bM<=1048576
 KP:0<=r.bR/\r.bR<=1048576
def Am(r:aF):fe (zaX 5000 r) (aN r):=by simp only[zaX,zb9,aY,aw,bq,bG,bz,b_,FH,fe];refine ⟨λa=>⟨λd=>⟨λe=>⟨λf=>⟨a,d,e,f⟩,λh=>h.KP⟩,λe h=>e h.KD⟩,λd h=>d h.mem⟩,λa h=>a h.FL⟩
theorem at4x0{a b c d:Int}:aD [a,b,c,d] 0=some a:=rfl
theorem at4x1{a b c d:Int}:aD [a,b,c,d] 1=some b:=rfl
theorem at4x2{a b c d:Int}:aD [a,b,c,d] 2=some c:=rfl
theorem at4x3{a b c d:Int}:aD [a,b,c,d] 3=some d:=rfl
def lpN(l:List Int)(d hi n:Int)(e:(l.length:Int)=n){E:Option Bool}{Q:Bool->Prop}(k:¬(∀a∈l,d<=a/\a<=hi)->Q false)(g:(∀a∈l,d<=a/\a<=hi)->bQ E Q)(j:l.length<5000) :
  bQ (bB (λ(f:Int->Option Bool) (x:Int)=>if (decide (x<n))=true then (aD l x).bind λy=>if ((decide (y<d)) || (decide (y > hi)))=true then some false else f (i64.wrap (x+1)) else E) 5000 0) Q:=by
 subst e;refine xX l (λ_ a=>d<=a/\a<=hi) (λi f h _ m=>?_) (λf h=>?_) j
 ·simp only[cS h,if_true,bY h,aw,bV (show i<1000000 by omega),bq,aY,gE,bz]
  grind
 ·simp only[eR,b_,cw];exact g (De h)
def zz{a b c d e hi:Int}:(∀x∈[a,b,c,d],e<=x/\x<=hi)↔(e<=a/\a<=hi)/\(e<=b/\b<=hi)/\(e<=c/\c<=hi)/\(e<=d/\d<=hi):=by simp
def GQ{a b c d hi:Int}:(∀x∈[a,b,c],d<=x/\x<=hi)↔(d<=a/\a<=hi)/\(d<=b/\b<=hi)/\(d<=c/\c<=hi):=by simp
def Up(r:aF):fe (Ov 5000 r) (aN r):=by
 simp only[Ov,gz,aw];refine lpN [r.bI,r.Mem,r.bM,r.bR] 0 1048576 4 rfl (λh=>?_) (λh=>?_) (by simp)
 ·simp only[b_,FH];exact λv=>h (zz.2 ⟨v.FL,v.mem,v.KD,v.KP⟩)
 ·rw[aY];obtain ⟨a,d,e,f⟩:=zz.1 h;exact ⟨λ_=>⟨a,d,e,f⟩,λ_=>rfl⟩
def bK:aF:={ bI:=0,Mem:=0,bM:=0,bR:=0 }
theorem gZ{a b:aF}:aF.beq a b=true↔a=b:=by obtain ⟨d,e,f,g⟩:=a;obtain ⟨h,i,j,k⟩:=b;simp[aF.beq]
def KN(l:List Int):Nat->Int
 |0=>-1
 |i+1=>l[i]?.getD 0
theorem pA{l:List Int}{i:Nat}(h:i<l.length):KN l (i+1)=l[i]:=by simp[KN,h]
def mC(l:List Int)(n:Int):Prop:=∀i (h:i<l.length),KN l i<l[i]/\l[i]<n
theorem mC.nn{l:List Int}{n:Int}(h:∀i (hi:i<l.length),KN l i<l[i]):∀i (hi:i<l.length),0<=l[i]:=by
 intro i;induction i with
 |zero=>grind [KN]
 |succ i ih=>grind [pA]
theorem mC.mem{l:List Int}{n:Int}(h:mC l n):∀x∈l,0<=x/\x<n:=λx j=>by obtain ⟨i,hi,rfl⟩:=iM j;exact ⟨mC.nn (n:=n) (λi hi=>(h i hi).1) i hi,(h i hi).2⟩
def ascending(l:List Int)(n:Int)(hl:l.length<99):fe (zeU 5000 l n) (mC l n):=by
 simp only[zeU];refine iL l.length (λi x=>x=(KN l i,(i:Int))/\∀j (d:j<l.length),j<i->KN l j<l[j]/\l[j]<n) (λi x f hi a g=>?_) (λx f a=>?_) ⟨rfl,λj d h=>by omega⟩ (by omega)
 ·obtain ⟨rfl,e⟩:=a;simp only[cS hi,if_true,bY hi,aw,bV (show i<1000000 by omega),bq,aY,gE,bz];refine ⟨λh=>?_,λh=>g _ ⟨by rw[pA hi],λj d k=>?_⟩⟩
  ·simp only[b_,FH];intro m;have:=m i hi;omega
  grind
 ·obtain ⟨rfl,e⟩:=a;simp only[eR,b_,cw,aY,OO];exact λi hi=>e i hi hi
def Fp(l:List Int)(n:Int)(hl:l.length<99):fe (zcp 5000 l n) (mC l n):=by
 simp only[zcp,eE];refine xX l (λi a=>KN l i<a/\a<n) (λi f h r e=>?_) (λf h=>?_) (by omega)
 ·have g:decide ((i:Int) > 0)=decide (0<i):=by simp
  simp only[cS h,if_true,bY h,aw,bV (show i<1000000 by omega),bq,aY,bz,g,b_,cw];have bad:¬(KN l i<l[i]/\l[i]<n)->(False↔mC l n):=λj=>by simp only[FH];exact λd=>j (d i h)
  refine ⟨λk=>?_,λk=>⟨λp=>bad (by omega),λp=>⟨λq=>?_,λq=>?_⟩⟩⟩
  ·simp only[FH];intro d;have:=(d.mem _ (bA h)).1;omega
  ·obtain ⟨m,rfl⟩:∃m,i=m+1:=⟨i-1,by omega⟩;rw[wp1 (show m+1<1000000 by omega),bY (show m<l.length by omega)];rw[pA (by omega)] at bad e;simp only[aw,bq,bz,aY,b_]
   simp_all
  grind [KN]
 ·simp only[eR,b_,cw,aY,OO];exact h
structure ot (s:aX):Prop where
 lo:1<=s.am.length
 hi:s.am.length<=16
 ok:∀r∈s.am,aN r
def PX(s:aX):fe (fL 5000 s) (ot s):=by
 simp only[fL,bq,aY];refine ⟨λh=>?_,λh=>?_⟩
 ·simp only[gE,bz] at h;simp only[b_,FH]
  grind [ot.lo,ot.hi]
 ·simp only[gE,bz,not_or] at h;refine LH s.am aN _ (λk=>k.ok) (λi f a Q e g=>?_) (λf d=>?_) (by omega)
  ·simp only[cS a,if_true,bY a,aw,bV (show i<1000000 by omega)];refine (Up _).bind λr j=>?_;simp only[bq,aY,hZ,nI]
   grind
  ·simp only[eR,b_,cw,aY,OO];exact ⟨by omega,by omega,d⟩
def Uz(s:aX)(hs:iE s):fe (zcY 5000 s) (ot s):=by
 have:=hs.nodes;simp only[zcY];refine LH s.am aN _ (λk=>k.ok) (λi f a Q e g=>?_) (λf d=>?_) (by omega)
 ·simp only[cS a,if_true,bY a,aw,bV (show i<1000000 by omega)];refine (Am _).bind λr j=>?_;simp only[bq,aY,hZ,nI]
  grind
 ·simp only[eR,b_,cw,AT,aw,aY,bG,bz];exact ⟨λh=>⟨by omega,by omega,d⟩,λh=>by grind [ot.lo,ot.hi]⟩
structure n_ (s:aX):Prop where
 lo:1<=s.aG.length
 hi:s.aG.length<=8
 ok:∀p∈s.aG,1<=p.length/\mC p s.am.length
def Pe(s:aX)(hs:iE s):fe (fO 5000 s) (n_ s):=by
 simp only[fO,eE,bq,aY];refine ⟨λh=>?_,λh=>?_⟩
 ·simp only[gE,bz] at h;simp only[b_,FH]
  grind [n_.lo,n_.hi]
 ·simp only[gE,bz,not_or] at h;refine LH s.aG (λp=>1<=p.length/\mC p s.am.length) _ (λk=>k.ok) (λi f a Q j d=>?_) (λf g=>?_) (by omega)
  ·have:=hs.part _ (bA a);simp only[cS a,if_true,bY a,aw,bV (show i<1000000 by omega),bq,aY,bz];refine ⟨λe=>d (by omega),λe=>?_⟩;refine (ascending _ _ (by omega)).bind λr l=>?_;simp only[bq,aY,hZ,nI]
   grind
  ·simp only[eR,b_,cw,aY,OO];exact ⟨by omega,by omega,g⟩
def TE(s:aX)(hs:iE s):fe (zcZ 5000 s) (n_ s):=by
 have:=hs.parts;simp only[zcZ,eE];refine LH s.aG (λp=>1<=p.length/\mC p s.am.length) _ (λk=>k.ok) (λi f a Q j d=>?_) (λf g=>?_) (by omega)
 ·have:=hs.part _ (bA a);simp only[cS a,if_true,bY a,aw,bV (show i<1000000 by omega),bq,aY,bz];refine ⟨λe=>d (by omega),λe=>?_⟩;refine (Fp _ _ (by omega)).bind λr l=>?_;simp only[bq,aY,hZ,nI]
  grind
 ·simp only[eR,b_,cw,AT,aw,aY,bG,bz];exact ⟨λh=>⟨by omega,by omega,g⟩,λh=>by grind [n_.lo,n_.hi]⟩
structure zq (s:aX) (q:yG):Prop where
 part:0<=q.Part/\q.Part<s.aG.length
 zY:mC q.aP s.aP
 bm:1<=q.jG/\q.jG<=256
 run:1<=q.mE/\q.mE<=256
 user:1<=q.hY/\q.hY<=256
 qos:0<=q.dL/\q.dL<=100
structure qj (s:aX):Prop where
 lo:1<=s.aq.length
 hi:s.aq.length<=8
 ok:∀q∈s.aq,zq s q
def LR(s:aX)(hs:iE s):fe (zeY 5000 s) (qj s):=by
 simp only[zeY,eE,bq,aY];refine ⟨λh=>?_,λh=>?_⟩
 ·simp only[gE,bz] at h;simp only[b_,FH]
  grind [qj.lo,qj.hi]
 ·simp only[gE,bz,not_or] at h;refine LH s.aq (zq s) _ (λk=>k.ok) (λi f a Q l d=>?_) (λf m=>?_) (by omega)
  ·have:=hs.queue _ (bA a);simp only[cS a,if_true,bY a,aw,bV (show i<1000000 by omega),b_,cw];rw[bq];refine ⟨λe=>?_,λe=>?_⟩
   ·simp only[gE,bz] at e;rw[aY];exact d λk=>by have:=k.part;omega
   ·simp only[gE,bz,not_or] at e;refine (ascending _ _ (by omega)).bind λr n=>?_;rw[bq];refine ⟨λg=>?_,λg=>?_⟩
    ·grind [aY,zq.zY]
    ·simp only[hZ,nI] at g;refine lpN [_,_,_] 1 256 3 rfl (λp=>d λk=>p (GQ.2 ⟨k.bm,k.run,k.user⟩)) (λq=>?_) (by simp);obtain ⟨t,u,v⟩:=GQ.1 q;rw[bq];refine ⟨λj=>?_,λj=>?_⟩
     ·simp only[gE,bz] at j;rw[aY];exact d λk=>by have:=k.qos;omega
     ·simp only[gE,bz,not_or] at j;exact l ⟨by omega,n.1 g,t,u,v,by omega⟩
  ·simp only[eR,b_,cw,aY,OO];exact ⟨by omega,by omega,m⟩
def OY(s:aX)(hs:iE s):fe (zcx 5000 s) (qj s):=by
 have:=hs.eH;simp only[zcx,eE];refine LH s.aq (zq s) _ (λk=>k.ok) (λi f d Q j a=>?_) (λf l=>?_) (by omega)
 ·have:=hs.queue _ (bA d);simp only[cS d,if_true,bY d,aw,bV (show i<1000000 by omega),b_,cw];rw[bq];refine ⟨λe=>?_,λe=>?_⟩
  ·simp only[gE,bz] at e;rw[aY];exact a λk=>by have:=k.part;omega
  ·simp only[gE,bz,not_or] at e;refine (Fp _ _ (by omega)).bind λr m=>?_;simp only[AT,aw,bq,aY,hZ,nI,bG,bz,yBD,yBn];refine ⟨λg=>a λk=>by grind [zq.zY],λg=>⟨λn=>a λk=>by have:=k.bm;omega,λn=>⟨λp=>a λk=>by have:=k.run;omega,λp=>⟨λq=>a λk=>by have:=k.user;omega,λq=>⟨λt=>a λk=>by have:=k.qos;omega,λt=>?_⟩⟩⟩⟩⟩;exact j ⟨by omega,m.1 g,by omega,by omega,by omega,by omega⟩
 ·simp only[eR,b_,cw,AT,aw,aY,bG,bz];exact ⟨λh=>⟨by omega,by omega,l⟩,λh=>by have:=h.lo;have:=h.hi;omega⟩
structure Bs (w:PJ):Prop where
 age:0<=w.fM/\w.fM<=1000
 size:0<=w.cu/\w.cu<=1000
 qos:0<=w.dL/\w.dL<=1000
 ZQ:0<=w.br/\w.br<=1000
def KG(w:PJ):fe (zeA 5000 w) (Bs w):=by
 simp only[zeA];refine lpN [w.fM,w.cu,w.dL,w.br] 0 1000 4 rfl (λh=>?_) (λh=>?_) (by simp)
 ·simp only[b_,FH];exact λv=>h (zz.2 ⟨v.age,v.size,v.qos,v.ZQ⟩)
 ·rw[aY];obtain ⟨a,d,e,f⟩:=zz.1 h;exact ⟨λ_=>⟨a,d,e,f⟩,λ_=>rfl⟩
structure ba (s:aX):Prop where
 nodes:ot s
 parts:n_ s
 zY:1<=s.aP/\s.aP<=8
 eH:qj s
 weights:Bs s.ae
 decay:1<=s.bN/\s.bN<=16
 mode:s.Mode=1\/s.Mode=2
 bm:1<=s.ah/\s.ah<=256
 ids:1<=s.iN/\s.iN<=1048576
 ub:1<=s.aI/\s.aI<=65536
 Yk:0<=s.bg/\s.bg<=65536
 keep:1<=s.cV/\s.cV<=16
 OC:1<=s.In/\s.In<=8
 out:1<=s.Out/\s.Out<=16
 cache:0<=s.bO/\s.bO<=16
def lY(s:aX)(hs:iE s):fe (PF 5000 s) (ba s):=by
 simp only[PF,BG];obtain ⟨N,z,m⟩:=PX s;obtain ⟨O,A,n⟩:=Pe s hs;obtain ⟨S,E,q⟩:=LR s hs;obtain ⟨U,F,r⟩:=KG s.ae;simp only[z,A,E,F,aw];have T:∀(x:ByteArray),x.toList≠[]->(¬ba s)->bQ ((some x).bind λa=>some (a.toList == (⟨#[]⟩:ByteArray).toList)) λb=>b=true↔ba s:=λx G W=>by
  rw[aw,aY]
  simp_all
 have step:∀(c:Bool)(x:ByteArray)(o:Option ByteArray),x.toList.isEmpty=false->(c=false->¬ba s)->(c=true->bQ (o.bind λa=>some (a.toList == (⟨#[]⟩:ByteArray).toList)) λb=>b=true↔ba s) ->
   bQ ((if (!c)=true then some x else o).bind λa=>some (a.toList == (⟨#[]⟩:ByteArray).toList)) λb=>b=true↔ba s:=λc x o G m n=>by
  grind
 have nb:∀{b:Bool}{p:Prop},(b=true↔p)->b=false->¬p:=λh e σ=>by simp_all
 refine step _ _ _ (by kernel_rfl) (λe k=>nb m e k.nodes) λc1=>?_;refine step _ _ _ (by kernel_rfl) (λe k=>nb n e k.parts) λK=>?_;refine step _ _ _ (by kernel_rfl) (λe k=>by grind [ba.zY]) λt=>?_;refine step _ _ _ (by kernel_rfl) (λe k=>nb q e k.eH) λL=>?_;refine step _ _ _ (by kernel_rfl) (λe k=>nb r e k.weights) λM=>?_;refine step _ _ _ (by kernel_rfl) (λe k=>by grind [ba.decay]) λu=>?_;refine step _ _ _ (by kernel_rfl) (λe k=>by grind [ba.mode]) λv=>?_;refine step _ _ _ (by kernel_rfl) (λe k=>by grind [ba.bm]) λw=>?_;refine step _ _ _ (by kernel_rfl) (λe k=>by grind [ba.ids]) λy=>?_;refine step _ _ _ (by kernel_rfl) (λe k=>by grind [ba.ub]) λd=>?_;refine step _ _ _ (by kernel_rfl) (λe k=>by grind [ba.Yk]) λf=>?_;refine step _ _ _ (by kernel_rfl) (λe k=>by grind [ba.keep]) λg=>?_;refine step _ _ _ (by kernel_rfl) (λe k=>by grind [ba.OC]) λi=>?_;refine step _ _ _ (by kernel_rfl) (λe k=>by grind [ba.out]) λj=>?_;refine step _ _ _ (by kernel_rfl) (λe k=>by grind [ba.cache]) λl=>?_;rw[aw,aY];simp only[yCs,OO];simp only[bG,gE,bz,lA] at t u v w y d f g i j l;exact ⟨m.1 c1,n.1 K,t,q.1 L,r.1 M,u,v,w,y,d,f,g,i,j,l⟩
theorem Nq{n:Nat}(hN:15<n){s:aX}{g j m:Bool}(T:zcY n s=some g)(F:g=true↔ot s)(U:zcZ n s=some j)(G:j=true↔n_ s)(W:zcx n s=some m)(K:m=true↔qj s):fe (zcV n s) (ba s):=by
 simp only[zcV,gT,T,U,W,aw,AT,eE];have d:∀w:Bool,(w=true↔Bs s.ae)->∀(L:List Bool)(M:List ByteArray),L=[g,j,decide (1<=s.aP)&&decide (s.aP<=8),m,w,decide (1<=s.bN)&&decide (s.bN<=16),decide (1<=s.Mode)&&decide (s.Mode<=2),decide (1<=s.ah)&&decide (s.ah<=256),decide (1<=s.iN)&&decide (s.iN<=1048576),decide (1<=s.aI)&&decide (s.aI<=65536),decide (0<=s.bg)&&decide (s.bg<=65536),decide (1<=s.cV)&&decide (s.cV<=16),decide (1<=s.In)&&decide (s.In<=8),decide (1<=s.Out)&&decide (s.Out<=16),decide (0<=s.bO)&&decide (s.bO<=16)] ->
   (∀x∈M,x.toList≠[])->M.length=15 ->
   bQ ((bB (λ(p:Int->Option ByteArray) (e:Int)=>if (decide (e<15))=true then (aD L e).bind λq=>if (!q)=true then (aD M e).bind λr=>some r else p (i64.wrap (e+1)) else some (⟨#[]⟩:ByteArray)) n 0).bind λσ=>some (σ.toList == (⟨#[]⟩:ByteArray).toList)) λb=>b=true↔ba s:=by
  intro w N L M Z hM O;have S:L.length=15:=by simp_all
  have t:(15:Int)=(L.length:Int):=by omega
  have all:(∀x∈L,x=true)↔ba s:=by
   rw[Z];simp only[gy,LL,Nj,forall_eq_or_imp,forall_eq,bG,bz];constructor
   ·rintro ⟨c1,c2,c3,c4,c5,c6,c7,c8,c9,u,v,y,z,A,E⟩;exact ⟨F.1 c1,G.1 c2,c3,K.1 c4,N.1 c5,c6,by omega,c8,c9,u,v,y,z,A,E⟩
   ·intro k;have:=k.mode;exact ⟨F.2 k.nodes,G.2 k.parts,k.zY,K.2 k.eH,N.2 k.weights,k.decay,by omega,k.bm,k.ids,k.ub,k.Yk,k.keep,k.OC,k.out,k.cache⟩
  rw[ki,t];have nil:(⟨#[]⟩:ByteArray).toList=[]:=by kernel_rfl
  refine xX L (λ_ x=>x=true) (λi f h _ hr=>?_) (λf hA=>?_) (by omega)
  ·simp only[cS h,if_true,bY h,bY (l:=M) (show i<M.length by omega),aw,bV (show i<1000000 by omega),bq,aY,hZ,nI,nil,lA] at hr ⊢
   grind [List.getElem_mem]
  ·simp only[eR,b_,cw,aY,yCs,OO];exact all.1 (De hA)
 have a:∀x∈([(⟨#[78,111,100,101,115]⟩:ByteArray),(⟨#[80,97,114,116,115]⟩:ByteArray),(⟨#[85,115,101,114,115]⟩:ByteArray),(⟨#[81,117,101,117,101,115]⟩:ByteArray),(⟨#[87,101,105,103,104,116,115]⟩:ByteArray),(⟨#[68,101,99,97,121]⟩:ByteArray),(⟨#[77,111,100,101]⟩:ByteArray),(⟨#[74,111,98,115]⟩:ByteArray),(⟨#[73,100,115]⟩:ByteArray),(⟨#[86,101,114,115,105,111,110,115]⟩:ByteArray),(⟨#[76,105,110,103,101,114]⟩:ByteArray),(⟨#[75,101,101,112]⟩:ByteArray),(⟨#[73,110]⟩:ByteArray),(⟨#[79,117,116]⟩:ByteArray),(⟨#[67,97,99,104,101]⟩:ByteArray)]:List ByteArray),x.toList≠[]:=by simp_all
 split
 ·rename_i w1;split
  ·rename_i w2;split
   ·rename_i w3;refine d _ ?_ _ _ rfl a rfl;simp only[bG,bz] at w1 w2 w3 ⊢;exact ⟨λw4=>⟨w1,w2,w3,w4⟩,λk=>k.ZQ⟩
   ·rename_i w3;refine d _ ?_ _ _ rfl a rfl;simp only[bG,bz] at w3;simp only[b_,FH];exact λk=>w3 k.qos
  ·rename_i w2;refine d _ ?_ _ _ rfl a rfl;simp only[bG,bz] at w2;simp only[b_,FH];exact λk=>w2 k.size
 ·rename_i w1;refine d _ ?_ _ _ rfl a rfl;simp only[bG,bz] at w1;simp only[b_,FH];exact λk=>w1 k.age
def Ue(s:aX)(hs:iE s):fe (zcV 5000 s) (ba s):=by
 obtain ⟨a,d,e⟩:=Uz s hs;obtain ⟨f,g,h⟩:=TE s hs;obtain ⟨i,j,k⟩:=OY s hs
 grind [Nq]
structure BM (L:List (Int×Int)) (k:Int):Prop where
 lo:0<=k
 hi:k<=64
 fit:∀p∈L,k * p.2<=p.1
 max:k<64->∃p∈L,p.1<(k+1) * p.2
def BM.By{L:List (Int×Int)}{k i:Int}(s:∀p∈L,0<=p.2)(h:BM L k)(A:BM L i):k=i:=by
 have u:∀{a b:Int},BM L a->BM L b->¬a<b:=λ{a b} x hb z=>by obtain ⟨p,j,E⟩:=x.max (by have:=hb.hi;omega);have F:=hb.fit p j;have G:(a+1) * p.2<=b * p.2:=yAY (by omega) (s p j);omega
 grind
theorem BM.nil:BM [] 64:=⟨by omega,by omega,by simp,by simp⟩
def qm(n a b:Int):Int:=if b > 0 then (if a.tdiv b<n then a.tdiv b else n) else n
def BM.step{L:List (Int×Int)}{k a b:Int}(h:BM L k)(z:∀p∈L,0<=p.2)(s:0<=a)(hb:0<=b):BM (L++[(a,b)]) (qm k a b):=by
 unfold qm;have u:=h.lo;have x:=h.hi;split
 ·rename_i j;rw[xAh s];have K:a / b * b<=a:=Int.ediv_mul_le a (by omega);have A:a<(a / b+1) * b:=Int.lt_ediv_add_one_mul_self a j;have E:0<=a / b:=Int.ediv_nonneg s (by omega);split
  ·rename_i F;refine ⟨E,by omega,λp i=>?_,λ_=>⟨(a,b),by simp,A⟩⟩;rcases kL.1 i with i | i
   ·have:=h.fit p i;have:a / b * p.2<=k * p.2:=yAY (by omega) (z p i);omega
   simp_all
  ·rename_i G;refine ⟨u,x,λp i=>?_,λhk=>?_⟩
   ·rcases kL.1 i with i | i
    ·exact h.fit p i
    ·simp only[zV] at i;subst i;have:k * b<=a / b * b:=yAY (by omega) (by omega)
     grind
   ·obtain ⟨p,i,q⟩:=h.max hk
    grind
 ·rename_i j;have:b=0:=by omega
  subst this;refine ⟨u,x,λp i=>?_,λhk=>?_⟩
  ·rcases kL.1 i with i | i
   ·exact h.fit p i
   simp_all
  ·obtain ⟨p,i,q⟩:=h.max hk
   grind
theorem PI{n a b:Int}(h:b > 0):qm n a b=if a.tdiv b<n then a.tdiv b else n:=by unfold qm;omega
theorem Qw{n a b:Int}(h:¬b > 0):qm n a b=n:=by unfold qm;omega
def FE(a b:aF):List (Int×Int):=[(a.bI,b.bI),(a.Mem,b.Mem),(a.bM,b.bM),(a.bR,b.bR)]
def dK(a b:aF):Int:=qm (qm (qm (qm 64 a.bI b.bI) a.Mem b.Mem) a.bM b.bM) a.bR b.bR
def vF{a b:aF}(d:aN a)(hb:aN b):BM (FE a b) (dK a b):=by have e:=BM.nil;have f:=e.step (by simp) d.FL.1 hb.FL.1;have g:=f.step (by simp;exact hb.FL.1) d.mem.1 hb.mem.1;have h:=g.step (by simp;exact ⟨hb.FL.1,hb.mem.1⟩) d.KD.1 hb.KD.1;have i:=h.step (by simp;exact ⟨hb.FL.1,hb.mem.1,hb.KD.1⟩) d.KP.1 hb.KP.1;exact i
theorem w1:i64.wrap (0+1)=1:=rfl
theorem w2:i64.wrap (1+1)=2:=rfl
theorem w3:i64.wrap (2+1)=3:=rfl
theorem w4:i64.wrap (3+1)=4:=rfl
theorem wq{a b:Int}(d:0<=a/\a<=1048576)(hb:0<b):EY .i64 a b=some (a.tdiv b):=by
 unfold EY;rw[if_neg (by omega)];have e:0<=a / b:=Int.ediv_nonneg d.1 (by omega);have f:a / b<=a:=Int.ediv_le_self b d.1
 grind [wr]
def stc(a b:aF):Nat->Int
 |0=>64
 |1=>qm 64 a.bI b.bI
 |2=>qm (qm 64 a.bI b.bI) a.Mem b.Mem
 |3=>qm (qm (qm 64 a.bI b.bI) a.Mem b.Mem) a.bM b.bM
 |_=>dK a b
def count{a b:aF}(g:aN a)(hb:aN b)(p:b≠bK):jy 5000 a b=some (dK a b):=by
 obtain ⟨q,h,j⟩:=Up a;obtain ⟨r,k,l⟩:=Up b;have m:=j.2 g;have n:=l.2 hb;subst m n;have d:aF.beq b bK=false:=by grind [gZ]
 simp only[jy,eE,h,k,aw,Ot,b_,cw,Bool.false_or,gz];change (if aF.beq b bK=true then some 0 else _)=_;rw[d];simp only[b_,cw];refine bQ.eq (iL 4 (λi x=>x=(stc a b i,(i:Int))) (λi x f hi e s=>?_) (λx f e=>?_) rfl (by omega))
 ·subst e;rcases (show i=0\/i=1\/i=2\/i=3 by omega) with rfl | rfl | rfl | rfl
  ·rw[show ((0:Nat):Int)=0 from rfl];simp only[show decide ((0:Int)<4)=true from rfl,if_true,at4x0,aw,w1,bq,bz]
   grind [stc,qm,wq,aN.FL]
  ·rw[show ((1:Nat):Int)=1 from rfl];simp only[show decide ((1:Int)<4)=true from rfl,if_true,at4x1,aw,w2,bq,bz]
   grind [stc,Qw,wq,aN.mem,PI]
  ·rw[show ((2:Nat):Int)=2 from rfl];simp only[show decide ((2:Int)<4)=true from rfl,if_true,at4x2,aw,w3,bq,bz]
   grind [stc,Qw,wq,aN.KD,PI]
  ·rw[show ((3:Nat):Int)=3 from rfl];simp only[show decide ((3:Int)<4)=true from rfl,if_true,at4x3,aw,w4,bq,bz]
   grind [stc,dK,Qw,wq,aN.KP,PI]
 ·subst e;simp only[show decide (((4:Nat):Int)<4)=false from rfl,b_,cw,aY];rfl
def If{b:aF}(hb:aN b):OZ 5000 b bK=some (decide (b=bK)):=by
 simp only[OZ,au];have:=hb.FL;have:=hb.mem;have:=hb.KD;have:=hb.KP;rw[Bool.eq_iff_iff];simp only[bG,bz];obtain ⟨a,d,e,f⟩:=b
 grind [bK]
def BH{a b:aF}(g:aN a)(hb:aN b)(w:b≠bK):zbz 5000 a b=some (dK a b):=by
 obtain ⟨T,z,t⟩:=Am a;obtain ⟨U,A,u⟩:=Am b;have E:=t.2 g;have F:=u.2 hb;subst E F;simp only[zbz,eE,z,A,aw,Ot,b_,cw];have G:OZ 5000 b ({ bI:=0,Mem:=0,bM:=0,bR:=0 }:aF)=some (decide (b=bK)):=If hb;rw[G];simp only[aw,w,decide_false,b_,cw];have W:=g.FL;have σ:=g.mem;have Z:=g.KD;have hl:=g.KP;have l:=hb.FL;have m:=hb.mem;have n:=hb.KD;have q:=hb.KP;have K:∀p∈FE a b,0<=p.2:=by
  intro p e;simp only[FE,gy,LL,Nj] at e;rcases e with rfl | rfl | rfl | rfl
  ·omega
  ·omega
  ·omega
  omega
 have done:∀k:Int,BM (FE a b) k->k=dK a b:=λk hk=>hk.By K (vF g hb);have d:∀{i:Nat}{y:Int},i<=65->0<=y/\y<=1048576->0<=(i:Int) * y/\(i:Int) * y<=68157440:=λ{i y} hi v=>by have t:0<=(i:Int) * y:=yBT (by omega) v.1;have u:(i:Int) * y<=65 * y:=yAY (by omega) v.1;omega
 refine bQ.eq (iL 64 (λi x=>x=((i:Int),((i+1:Nat):Int) * b.bI,((i+1:Nat):Int) * b.Mem,((i+1:Nat):Int) * b.bM,((i+1:Nat):Int) * b.bR)/\∀p∈FE a b,(i:Int) * p.2<=p.1) (λi x f hi r L=>?_) (λx f r=>?_) ⟨by simp,λp e=>?_⟩ (by omega))
 ·obtain ⟨rfl,s⟩:=r;have m1:=d (i:=i+1) (by omega) l;have m2:=d (i:=i+1) (by omega) m;have m3:=d (i:=i+1) (by omega) n;have m4:=d (i:=i+1) (by omega) q;have j:∀y:Int,((i+1:Nat):Int) * y+y=((i+1+1:Nat):Int) * y:=λy=>by
   grind
  simp only[show decide ((i:Int)<64)=true by grind,if_true,OZ,aw,Zj,bq,aY,bG,bz,bV (show i<1000000 by omega)];rw[wr (by omega) (by omega),wr (by omega) (by omega),wr (by omega) (by omega),wr (by omega) (by omega),j,j,j,j];refine ⟨λh=>L _ ⟨rfl,λp e=>?_⟩,λh=>done _ ⟨by omega,by omega,s,λ_=>?_⟩⟩
  ·simp only[FE,gy,LL,Nj] at e;rcases e with rfl | rfl | rfl | rfl
   ·simp_all
   ·simp_all
   ·simp_all
   simp_all
  ·rw[show ((i:Int)+1)=((i+1:Nat):Int) by omega];by_cases M:a.bI<((i+1:Nat):Int) * b.bI
   ·exact ⟨(a.bI,b.bI),by simp[FE],M⟩
   by_cases N:a.Mem<((i+1:Nat):Int) * b.Mem
   ·exact ⟨(a.Mem,b.Mem),by simp[FE],N⟩
   by_cases O:a.bM<((i+1:Nat):Int) * b.bM
   ·exact ⟨(a.bM,b.bM),by simp[FE],O⟩
   by_cases S:a.bR<((i+1:Nat):Int) * b.bR
   ·exact ⟨(a.bR,b.bR),by simp[FE],S⟩
   omega
 ·obtain ⟨rfl,s⟩:=r;simp only[show decide (((64:Nat):Int)<64)=false from rfl,b_,cw,aY];exact done _ ⟨by omega,by omega,s,λh=>by omega⟩
 ·simp only[FE,gy,LL,Nj] at e
  grind
def rP(s:aX)(l:List Int)(need:aF):Int:=(l.map λn=>dK ((s.am[n.toNat]?).getD bK) need).sum
def Pb{a b:aF}(d:aN a)(hb:aN b):0<=dK a b/\dK a b<=64:=⟨(vF d hb).lo,(vF d hb).hi⟩
def BL{s:aX}{need:aF}(k:ba s)(n:aN need)(E:need≠bK){l:List Int}(hl:l.length<=300)(p:mC l s.am.length)(C:aF->Option Int)(r:∀a,aN a->C a=some (dK a need)) :
  bB (λ(t:Int×Int->Option Int) (g:Int×Int)=>if (decide (g.2<(l.length:Int)))=true then (aD l g.2).bind λu=>(aD s.am u).bind λv=>(C v).bind λw=>t ((i64.wrap (g.1+w)),(i64.wrap (g.2+1))) else some g.1) 5000 (0,0)=some (rP s l need):=by
 have z:∀(m:List Int),(∀x∈m,x∈l)->0<=rP s m need/\rP s m need<=64 * m.length:=by
  intro m;induction m with
  |nil=>grind [rP]
  |cons x m ih=>
   intro h;have F:=ih λy A=>h y (o_ _ A);have q:=p.mem x (h x (qY ..));have d:x.toNat<s.am.length:=by omega
   have:=Pb (k.nodes.ok (s.am[x.toNat]) (bA d)) n
   grind [rP]
 refine bQ.eq (iL l.length (λi x=>x=(rP s (l.take i) need,(i:Int))) (λi x f hi d j=>?_) (λx f d=>?_) (by grind) (by omega))
 ·subst d;have q:=p.mem l[i] (bA hi);obtain ⟨d,e⟩:=AV q.1 q.2;have c:=Pb (k.nodes.ok (s.am[l[i].toNat]) (bA d)) n;have b:=z (l.take i) λx d=>Mx d;have G:((l.take i).length:Int)<=300:=by grind
  simp only[cS hi,if_true,bY hi,aw,e,r _ (k.nodes.ok _ (bA d)),bV (show i<1000000 by omega)];rw[wr (by omega) (by omega)];refine j _ ?_;congr 1;rw[Hw hi];simp only[rP,yBX,rS,List.map_nil,List.sum_append,List.sum_cons,List.sum_nil,dW d,OE];omega
 ·subst d;simp only[eR,b_,cw,aY,xB]
def Ti{s:aX}(hs:iE s)(k:ba s){q m:Int}{need:aF}(d:aN need)(f:need≠bK):∃b,zeP 5000 s q m need=some b/\zdo 5000 s q m need=some b:=by
 obtain ⟨v,h,r⟩:=lY s hs;have t:=r.2 k;subst t;by_cases j:0<=q/\q<s.aq.length/\1<=m
 ·obtain ⟨u,e⟩:=AV j.1 j.2.1;have g:=k.eH.ok _ (bA u);obtain ⟨l,n⟩:=AV g.part.1 g.part.2;have p:=k.parts.ok _ (bA l);have lp:=hs.part _ (bA l);refine ⟨decide (rP s (s.aG[s.aq[q.toNat].Part.toNat]) need≥m),?_,?_⟩
  ·simp only[zeP,h,aw];rw[if_neg (by simp_all),e,aw];simp only[vP,h,aw];rw[if_neg (by have:=g.part;simp;omega),n,aw];have:=BL k d f (jk lp (by decide)) p.2 (λa=>jy 5000 a need) (λa i=>count i d f);rw[this,aw]
  ·simp only[zdo];rw[if_pos (by simp_all),e,aw];simp only[iC];rw[if_neg (by have:=g.part;simp_all)];simp only[n,aw];have:=BL k d f (jk lp (by decide)) p.2 (λa=>zbz 5000 a need) (λa i=>BH i d f);rw[this,aw]
 ·refine ⟨false,?_,?_⟩
  ·simp only[zeP,h,aw]
   grind
  ·simp only[zdo]
   grind
structure zA (j:aJ):Prop where
 st:1<=j.State/\j.State<=6
 start:j.Start≠0->3<=j.State
 fin:j.End≠0->5<=j.State
 ok:j.Ok=true->j.State=4\/j.State=5
 kill:j.cH=true->j.State=4\/j.State=6
structure dh (j:aJ):Prop where
 id:1<=j.Id/\j.Id<=1048576
 user:0<=j.bL/\j.bL<=7
 queue:0<=j.Queue/\j.Queue<=7
 many:1<=j.aL/\j.aL<=64
 need:aN j.ay
 rZ:j.ay≠bK
 wall:1<=j.aR/\j.aR<=65536
 kI:j.aE.length<=4
 after:∀d∈j.aE,1<=d.bj/\d.bj<=j.Id-1
 version:1<=j.aK/\j.aK<=281474976710656
 born:0<=j.cA/\j.cA<=1099511627776
 start:0<=j.Start/\j.Start<=1099511627776
 fin:0<=j.End/\j.End<=1099511627776
 arr:0<=j.Array/\j.Array<=j.Id
 state:zA j
def name_ok(x:Int):bQ (vD 5000 x) λr=>r.toList=[]↔¬(1<=x/\x<=6):=by
 simp only[vD,bq,aY,lA];have e:(⟨#[]⟩:ByteArray).toList=[]:=by kernel_rfl
 refine ⟨λh=>?_,λa=>⟨λh=>?_,λd=>⟨λh=>?_,λf=>⟨λh=>?_,λg=>⟨λh=>?_,λi=>⟨λh=>?_,λj=>?_⟩⟩⟩⟩⟩⟩
 ·simp_all
 ·simp_all
 ·simp_all
 ·simp_all
 ·simp_all
 ·simp_all
 grind
def LS(j:aJ):fe (gX 5000 j) (zA j):=by
 have e:(⟨#[]⟩:ByteArray).toList=[]:=by kernel_rfl
 simp only[gX,eE];refine (name_ok j.State).bind λr i=>?_;have no:∀{p:Prop},¬p->(false=true↔p):=λh=>by simp[h]
 rw[bq];refine ⟨λh=>?_,λh=>?_⟩
 ·rw[aY];simp only[e,lA] at h;exact no λk=>i.1 h k.st
 ·simp only[e,lA] at h;have hs:1<=j.State/\j.State<=6:=yCr λl=>h (i.2 l);simp only[jd,VY,aw,b_,cw];have fin:∀Q:Prop,(Q↔((j.Ok=true->j.State=4\/j.State=5)/\(j.cH=true->j.State=4\/j.State=6)->zA j)/\True)->True:=λ_ _=>trivial;have a:(j.Start≠0->3<=j.State)->(j.End≠0->5<=j.State)->bQ (if ((j.Ok&&(j.State != 4))&&(j.State != 5))=true then some false else if ((j.cH&&(j.State != 4))&&(j.State != 6))=true then some false else some true) λb=>b=true↔zA j:=λf m=>by
   simp only[bq,aY,bG,HU,ne_eq];refine ⟨λq=>no λk=>by have:=k.ok q.1.1;omega,λn=>⟨λq=>no λk=>by have:=k.kill q.1.1;omega,λd=>?_⟩⟩;simp only[OO];refine ⟨hs,f,m,λo=>?_,λo=>?_⟩
   ·grind
   grind
  have mid:(j.Start≠0->3<=j.State)->bQ (if (j.End != 0)=true then (if (!((j.State == 5) || (j.State == 6)))=true then some false else if ((j.Ok&&(j.State != 4))&&(j.State != 5))=true then some false else if ((j.cH&&(j.State != 4))&&(j.State != 6))=true then some false else some true) else if ((j.Ok&&(j.State != 4))&&(j.State != 5))=true then some false else if ((j.cH&&(j.State != 4))&&(j.State != 6))=true then some false else some true) λb=>b=true↔zA j:=λf=>by
   rw[bq];refine ⟨λq=>?_,λq=>a f λg=>absurd g (by simp_all)⟩;rw[bq];refine ⟨λd=>?_,λd=>a f λ_=>?_⟩
   ·rw[aY];simp only[HU,ne_eq,hZ,Bool.or_eq_false_iff,beq_eq_false_iff_ne] at q d;exact no λk=>by have:=k.fin q;omega
   grind [Bool.or_eq_false_iff]
  rw[bq];refine ⟨λq=>?_,λq=>mid λg=>absurd g (by simp_all)⟩;rw[bq];refine ⟨λd=>?_,λd=>mid λ_=>?_⟩
  ·rw[aY];simp only[HU,ne_eq,gE,lA] at q d;exact no λk=>by have:=k.start q;omega
  grind
def BN(j:aJ):fe (zeQ 5000 j) (dh j):=by
 have no:∀{p:Prop},¬p->bQ (some false) (λb=>b=true↔p):=λh=>by rw[aY];simp[h]
 simp only[zeQ,Ou,aw];have a:∀{l hi x:Int}{o:Option Bool}{P:Prop},(P->l<=x/\x<=hi)->(l<=x/\x<=hi->bQ o λb=>b=true↔P)->bQ (if (decide (l<=x)&&decide (x<=hi))=true then o else some false) λb=>b=true↔P:=λu m=>by rw[bq];simp only[bG,bz];exact ⟨λh=>m h,λh=>no λp=>h (u p)⟩
 refine a (λk=>k.id) λc1=>a (λk=>k.user) λA=>a (λk=>k.queue) λE=>a (λk=>k.many) λF=>?_;refine (Up j.ay).bind λr v=>?_;rw[bq];refine ⟨λh=>?_,λh=>no λk=>h ?_⟩
 rotate_left
 ·have N:aF.beq j.ay bK=false:=by
   grind [gZ,dh.rZ]
  rw[v.2 k.need];change (true&&!(aF.beq j.ay bK))=true
  simp_all
 simp only[bG,hZ] at h;have G:=v.1 h.1;have n:j.ay≠bK:=λe=>by
  have m:aF.beq j.ay bK=false:=h.2
  grind [gZ]
 refine a (λk=>k.wall) λK=>?_;have g:fe (ic 5000 j) (j.aE.length<=4/\∀d∈j.aE,1<=d.bj/\d.bj<=j.Id-1):=by
  simp only[ic,bq,aY,Ou,aw];refine ⟨λh=>?_,λh=>?_⟩
  ·grind
  ·simp only[bz] at h;refine LH j.aE (λd=>1<=d.bj/\d.bj<=j.Id-1) _ (λk=>k.2) (λi f w Q u m=>?_) (λf O=>?_) (by omega)
   ·simp only[cS w,if_true,bY w,aw,bV (show i<1000000 by omega),bq,aY,hZ,yBD,yBn]
    grind [wr]
   ·simp only[eR,b_,cw,aY,OO]
    grind
 refine g.bind λS y=>?_;rw[bq];refine ⟨λh=>?_,λh=>no λk=>h (y.2 ⟨k.kI,k.after⟩)⟩;have z:=y.1 h;refine a (λk=>k.version) λL=>a (λk=>k.born) λM=>a (λk=>k.start) λq=>a (λk=>k.fin) λs=>a (λk=>k.arr) λt=>?_;refine (LS j).bind λrs hs=>?_;rw[aY,hs];exact ⟨λk=>⟨c1,A,E,F,G,n,K,z.1,z.2,L,M,q,s,t,k⟩,λk=>k.state⟩
def Gr(j:aJ)(hl:j.aE.length<=10):fe (zdV 5000 j) (dh j):=by
 simp only[zdV,eE,RJ,aw];refine LH j.aE (λd=>1<=d.bj/\d.bj<=i64.wrap (j.Id-1)) _ (λk d a=>by have:=k.after d a;have:=k.id;grind [wr]) (λi f e Q g A=>?_) (λf E=>?_) (by omega)
 ·simp only[cS e,if_true,bY e,aw,bV (show i<1000000 by omega),bq,aY,hZ,yBD,yBn]
  grind
 ·simp only[eR,b_,cw];obtain ⟨F,l,g⟩:=Am j.ay;simp only[l,aw];have no:∀{p:Prop},¬p->(False↔p):=λh=>by simp[h]
  simp only[if_true,cw,bq,aY,bz,hZ,yBD,yBn,bG,b_,nI,HU,ne_eq,gE,lA];refine ⟨λc=>no λk=>by grind [dh.kI],λG=>⟨λc=>no λk=>by have:=k.id;omega,λc1=>⟨λc=>no λk=>by have:=k.user;omega,λK=>⟨λc=>no λk=>by have:=k.queue;omega,λL=>⟨λc=>no λk=>by have:=k.many;omega,λM=>⟨λc=>no λk=>(by grind [dh.need]),λm=>?_⟩⟩⟩⟩⟩⟩;have v:=g.1 m;have n:OZ 5000 j.ay ({ bI:=0,Mem:=0,bM:=0,bR:=0 }:aF)=some (decide (j.ay=bK)):=If v;simp only[if_true,cw,n,aw,bq,aY,bz,hZ,yBD,yBn,bG,b_,nI,HU,ne_eq,gE,lA];refine ⟨λc=>no λk=>k.rZ c,λq=>⟨λc=>no λk=>by have:=k.wall;omega,λN=>⟨λc=>no λk=>by have:=k.state.st;omega,λO=>⟨λc=>no λk=>by have:=k.version;omega,λS=>⟨λc=>no λk=>by have:=k.arr;omega,λr=>⟨λc=>no λk=>by have:=k.born;omega,λs=>⟨λc=>no λk=>by have:=k.start;omega,λt=>⟨λc=>no λk=>by have:=k.fin;omega,λu=>⟨λc=>no λk=>by have:=k.state.start;omega,λw=>⟨λc=>no λk=>by have:=k.state.fin;omega,λx=>⟨λy=>?_,λc=>no λk=>c ?_⟩⟩⟩⟩⟩⟩⟩⟩⟩⟩⟩
  ·constructor
   ·intro z;refine ⟨by omega,by omega,by omega,by omega,v,q,by omega,by omega,λd a=>?_,by omega,by omega,by omega,by omega,by omega,⟨by omega,by omega,by omega,λo=>?_,λo=>?_⟩⟩
    ·grind [wr]
    ·simp_all
    simp_all
   ·intro k;cases hk:j.cH with
    |false=>simp_all
    |true=>
     rcases k.state.kill hk with c | c
     ·omega
     omega
  ·cases hk:j.Ok with
   |false=>simp_all
   |true=>
    rcases k.state.ok hk with c | c
    ·omega
    omega
section
variable{X R:Type}{b:(X->Option R)->X->Option R}{Q:R->Prop}
theorem lpM(I:X->Prop)(m:X->Nat)(hs:∀x f,I x->(∀d,I d->m d<m x->bQ (f d) Q)->bQ (b f x) Q){a:X}(g:I a){N:Nat}(i:m a<N):bQ (bB b N a) Q:=by
 induction N generalizing a with
 |zero=>omega
 |succ N ih=>exact hs a _ g λd e h=>ih e (by omega)
end
def mid{i j:Nat}(h:i+j<1000000):i64.wrap (Int.fdiv (u64.wrap (i64.wrap ((i:Int)+(j:Int)))) (2 ^ 1))=(((i+j) / 2:Nat):Int):=by
 rw[wr (x:=(i:Int)+(j:Int)) (by omega) (by omega)]
 grind [Go.IntKind.wrap,Go.IntKind.bits]
def bU(l:List aJ):Prop:=∀i (h:i+1<l.length),l[i].Id<l[i+1].Id
theorem bU.lt{l:List aJ}(h:bU l):∀{i j:Nat}(s:i<j)(u:j<l.length),l[i].Id<l[j].Id:=by
 intro i j s u;induction j with
 |zero=>omega
 |succ j ih=>
  have x:=h j u
  grind
theorem bU.inj{l:List aJ}(h:bU l){i j:Nat}(hi:i<l.length)(u:j<l.length)(e:l[i].Id=l[j].Id):i=j:=by
 rcases Wh i j with s | s | s
 ·have:=h.lt s u;omega
 ·exact s
 ·have:=h.lt s hi;omega
structure At (l:List aJ) (id:Int) (r:Int):Prop where
 lo:0<=r
 hi:r.toNat<l.length
 is:l[r.toNat].Id=id
theorem At.mem{l:List aJ}{id r:Int}(h:At l id r):∃j∈l,j.Id=id:=⟨l[r.toNat]'h.hi,bA _,h.is⟩
def At.By{l:List aJ}{id r i:Int}(hs:bU l)(h:At l id r)(j:At l id i):r=i:=by have:=hs.inj h.hi j.hi (by grind [At.is]);have:=h.lo;have:=j.lo;omega
def half{l:List aJ}(hl:l.length<=300)(hs:bU l)(id:Int){R:Type}{Q:R->Prop}(C:aJ->Option Bool)(n:∀j∈l,C j=some (decide (j.Id<id)))(E:Int->Option R)
  (u:∀i:Nat,i<=l.length->(∀k (h:k<l.length),k<i->l[k].Id<id)->(∀k (h:k<l.length),i<=k->id<=l[k].Id)->bQ (E (i:Int)) Q) :
  ∀ (b : (Int × Int -> Option R) -> Int × Int -> Option R), (∀ f x, b f x = if decide (x.1 < x.2) = true then (aD l (i64.wrap (Int.fdiv (u64.wrap (i64.wrap (x.1 + x.2))) (2 ^ 1)))).bind λa => (C a).bind λc => if c = true then f ((i64.wrap ((i64.wrap (Int.fdiv (u64.wrap (i64.wrap (x.1 + x.2))) (2 ^ 1))) + 1)), x.2) else f (x.1, (i64.wrap (Int.fdiv (u64.wrap (i64.wrap (x.1 + x.2))) (2 ^ 1)))) else E x.1) ->
   bQ (bB b 5000 (0,(l.length:Int))) Q:=by
 intro b hb;refine lpM (λx=>∃i j:Nat,x=((i:Int),(j:Int))/\i<=j/\j<=l.length/\(∀k (h:k<l.length),k<i->l[k].Id<id)/\(∀k (h:k<l.length),j<=k->id<=l[k].Id)) (λx=>(x.2-x.1).toNat) (λx f p m=>?_) ⟨0,l.length,rfl,by omega,by omega,λk h hk=>by omega,λk h hk=>by omega⟩ (by omega);obtain ⟨i,j,rfl,v,r,s,t⟩:=p;rw[hb,bq];dsimp only;refine ⟨λh=>?_,λh=>?_⟩
 ·simp only[bz] at h;rw[mid (by omega)];have e:(i+j) / 2<l.length:=by omega
  rw[bY e,aw,n _ (bA e),aw,bq];refine ⟨λg=>?_,λg=>?_⟩
  ·simp only[bz] at g;rw[bV (by omega)];refine m _ ⟨(i+j) / 2+1,j,rfl,by omega,r,λk hk d=>?_,t⟩ (by omega);rcases VX (yCz.1 d) with q | q
   ·have:=hs.lt q e;omega
   simp_all
  ·simp only[bz] at g;refine m _ ⟨i,(i+j) / 2,rfl,by omega,by omega,s,λk hk d=>?_⟩ (by omega);rcases VX d with q | q
   ·have:=hs.lt q hk;omega
   simp_all
 ·simp only[bz] at h;have:i=j:=by omega
  simp_all
def Tt{l:List aJ}(hl:l.length<=300)(hs:bU l){id:Int}(m:0<=id/\id<=1048576)(g:∀j∈l,0<=j.Id/\j.Id<=1048576):bQ (ni 5000 l id) λr=>(r.2=true↔∃j∈l,j.Id=id)/\(r.2=true->At l id r.1):=by
 simp only[ni,zaB];rw[ki];refine half hl hs id (λj=>some (decide (i64.wrap (j.Id-id)<0))) (λj d=>?_) (λi=>if (decide (i<(l.length:Int)))=true then (aD l i).bind λn=>(iz 5000 n id).bind λp=>some (i,(p == 0)) else some (i,false)) (λi hi s t=>?_) _ (λf x=>rfl)
 ·have:=g j d;rw[wr (by omega) (by omega)]
  grind
 ·rw[bq];refine ⟨λh=>?_,λh=>?_⟩
  ·simp only[bz] at h;have a:i<l.length:=by omega
   have:=g _ (bA a);rw[bY a,aw];simp only[iz,aw,aY,lA];rw[wr (by omega) (by omega)];refine ⟨⟨λe=>⟨_,bA a,by omega⟩,λ⟨j,d,e⟩=>?_⟩,λe=>⟨by omega,by omega,by grind⟩⟩;obtain ⟨k,hk,rfl⟩:=iM d;rcases Wh k i with q | q | q
   ·grind
   ·simp_all
   ·have:=hs.lt q hk;grind
  ·simp only[bz] at h;simp only[aY,b_,FH,false_implies,NT]
   grind [List.getElem_of_mem]
def vl{l:List aJ}(hl:l.length<=300)(id:Int):bQ (za8 5000 l id) λr=>(0<=r↔∃j∈l,j.Id=id)/\(0<=r->At l id r)/\(r<0->r=-1):=by
 simp only[za8];refine xX l (λ_ j=>j.Id≠id) (λi f h _ a=>?_) (λf h=>?_) (by omega)
 ·simp only[cS h,if_true,bY h,aw,bV (show i<1000000 by omega),bq,aY,lA];exact ⟨λe=>⟨⟨λ_=>⟨_,bA h,e⟩,λ_=>by omega⟩,λ_=>⟨by omega,by omega,by simp_all⟩,λh=>by omega⟩,λe=>a e⟩
 ·simp only[eR,b_,cw,aY];refine ⟨⟨λh=>by omega,λ⟨j,d,e⟩=>absurd e (De (A:=λj=>j.Id≠id) h j d)⟩,λh=>by omega,λ_=>trivial⟩
structure C_ (l:List dk) (n:Int) (i:Nat) (x:dk):Prop where
 up:KN (l.map (·.Node)) i<x.Node
 lt:x.Node<n
 lo:1<=x.aL
 hi:x.aL<=64
def bo(l:List dk)(n:Int):Prop:=∀i (h:i<l.length),C_ l n i l[i]
def bo.node{l:List dk}{n:Int}(h:bo l n):mC (l.map (·.Node)) n:=λi hi=>by rw[vR] at hi;rw[Wc];exact ⟨(h i hi).up,(h i hi).lt⟩
theorem bo.mem{l:List dk}{n:Int}(h:bo l n):∀x∈l,0<=x.Node/\x.Node<n/\1<=x.aL/\x.aL<=64:=λx j=>by have s:=h.node.mem x.Node (iX.2 ⟨x,j,rfl⟩);obtain ⟨i,hi,rfl⟩:=iM j;have u:=h i hi;exact ⟨s.1,s.2,u.lo,u.hi⟩
theorem qJ{l:List dk}{i:Nat}(h:i<l.length):KN (l.map (·.Node)) (i+1)=l[i].Node:=by grind [pA]
def nV(l:List dk)(n:Int)(hl:l.length<=300):fe (zfa 5000 l n) (bo l n):=by
 simp only[zfa];refine iL l.length (λi x=>x=(KN (l.map (·.Node)) i,(i:Int))/\∀j (e:j<l.length),j<i->C_ l n j l[j]) (λi x f hi a m=>?_) (λx f a=>?_) ⟨rfl,λj e h=>by omega⟩ (by omega)
 ·obtain ⟨rfl,g⟩:=a;simp only[cS hi,if_true,bY hi,aw,bV (show i<1000000 by omega),bq,aY,gE,bz];refine ⟨λh=>?_,λh=>m _ ⟨by rw[qJ hi],λj e d=>?_⟩⟩
  ·simp only[b_,FH];intro p;have q:=p i hi;have r:=q.up;have s:=q.lt;have t:=q.lo;have u:=q.hi;omega
  ·rcases VX (yCz.1 d) with k | k
   ·simp_all
   ·subst k;exact ⟨by omega,by omega,by omega,by omega⟩
 ·obtain ⟨rfl,g⟩:=a;simp only[eR,b_,cw,aY,OO];exact λi hi=>g i hi hi
def Hf(l:List dk)(n:Int)(hl:l.length<=300):fe (zbw 5000 l n) (bo l n):=by
 simp only[zbw,eE];refine xX l (λi a=>C_ l n i a) (λi f h v e=>?_) (λf h=>?_) (by omega)
 ·have g:decide ((i:Int) > 0)=decide (0<i):=by simp
  simp only[cS h,if_true,bY h,aw,bV (show i<1000000 by omega),bq,aY,bz,g,b_,cw];have bad:¬(C_ l n i l[i])->(False↔bo l n):=λj=>by simp only[FH];exact λd=>j (d i h)
  refine ⟨λp=>?_,λp=>⟨λq=>bad λk=>by have:=k.lt;omega,λq=>⟨λr=>bad λk=>by have:=k.lo;omega,λr=>⟨λs=>bad λk=>by have:=k.hi;omega,λs=>⟨λt=>?_,λt=>?_⟩⟩⟩⟩⟩
  ·simp only[FH];intro d;have:=(d.mem _ (bA h)).1;omega
  ·obtain ⟨m,rfl⟩:∃m,i=m+1:=⟨i-1,by omega⟩;rw[wp1 (show m+1<1000000 by omega),bY (show m<l.length by omega)];simp only[aw,bq,bz,aY,b_];exact ⟨λu=>bad λk=>by have:=k.up;grind [qJ],λu=>e ⟨by grind [qJ],by omega,by omega,by omega⟩⟩
  ·have:i=0:=by omega
   subst this;exact e ⟨by grind [KN],by omega,by omega,by omega⟩
 ·simp only[eR,b_,cw,aY,OO];exact h
def ky(l:List dk):Int:=(l.map (·.aL)).sum
theorem Zm{l:List dk}(h:∀x∈l,1<=x.aL/\x.aL<=64):0<=ky l/\ky l<=64 * l.length:=by
 induction l with
 |nil=>simp[ky]
 |cons x l ih=>
  have:=ih λy a=>h y (o_ _ a)
  grind [ky]
theorem Nn{l:List dk}{i:Nat}(h:i<l.length):ky (l.take (i+1))=ky (l.take i)+l[i].aL:=by grind [List.take_succ_eq_append_getElem,ky]
def LN{l:List dk}{n:Int}(hl:l.length<=300)(h:bo l n):nX 5000 l=some (ky l):=by
 simp only[nX];refine bQ.eq (iL l.length (λi x=>x=(ky (l.take i),(i:Int))) (λi x f hi a e=>?_) (λx f a=>?_) (by simp[ky]) (by omega))
 ·subst a;have q:=h.mem _ (bA hi);have b:=Zm (l:=l.take i) λx a=>(h.mem x (Mx a)).2.2;have g:((l.take i).length:Int)<=300:=by rw[BZ];omega
  have d:Wb 5000 l[i].aL 0 64=some l[i].aL:=by
   simp only[Wb]
   grind
  simp only[cS hi,if_true,bY hi,aw,d,bV (show i<1000000 by omega)]
  grind [wr,Nn]
 ·subst a;simp only[eR,b_,cw,aY,xB]
def UB{l:List dk}{n:Int}(hl:l.length<=300)(h:bo l n):zdW 5000 l=some (ky l):=by
 simp only[zdW,eE];refine bQ.eq (iL l.length (λi x=>x=(ky (l.take i),(i:Int))) (λi x f hi a d=>?_) (λx f a=>?_) (by simp[ky]) (by omega))
 ·subst a;have q:=h.mem _ (bA hi);have b:=Zm (l:=l.take i) λx a=>(h.mem x (Mx a)).2.2;have e:((l.take i).length:Int)<=300:=by grind
  simp only[cS hi,if_true,bY hi,aw,bV (show i<1000000 by omega)];rw[if_neg (by simp_all),if_pos (by grind),wr (by omega) (by omega)]
  grind [Nn]
 ·subst a;simp only[eR,b_,cw,aY,xB]
def Ma(l:List Int)(hl:l.length<=300)(x:Int):fe (zca 5000 l x) (x∈l):=by
 simp only[fe,zca,zem];rw[ki];refine xX l (λ_ y=>x≠y) (λi f h _ a=>?_) (λf h=>?_) (by omega)
 ·simp only[cS h,if_true,bY h,aw,bV (show i<1000000 by omega),bq,lA];refine ⟨λe=>?_,λe=>a e⟩;simp only[aY,bz]
  simp_all
 ·simp only[eR,b_,cw,aY,bz];exact ⟨λh=>by omega,λd=>absurd rfl (De (A:=λy=>x≠y) h x d)⟩
def ref_has(l:List Int)(hl:l.length<=300)(x:Int):fe (ze5 5000 l x) (x∈l):=by
 simp only[ze5];refine xX l (λ_ y=>y≠x) (λi f h _ d=>?_) (λf h=>?_) (by omega)
 ·simp only[cS h,if_true,bY h,aw,bV (show i<1000000 by omega),bq,lA,aY,OO]
  grind
 ·simp only[eR,b_,cw,aY,FH];exact λa=>absurd rfl (De (A:=λy=>y≠x) h x a)
structure jz (s:aX) (j:aJ) (l:List dk):Prop where
 shares:bo l s.am.length
 Us:ky l=j.aL
 q:0<=j.Queue/\j.Queue<s.aq.length
 part:∀x∈l,x.Node∈(s.aG[((s.aq[j.Queue.toNat]?).getD default).Part.toNat]?).getD []
def Mu{s:aX}(hs:iE s)(k:ba s)(j:aJ)(l:List dk)(hl:l.length<=300):fe (gj 5000 s j l) (jz s j l):=by
 have no:∀{p:Prop},¬p->bQ (some false) (λb=>b=true↔p):=λh=>by rw[aY];simp[h]
 simp only[gj,eE];refine (nV l _ hl).bind λr g=>?_;rw[bq];refine ⟨λh=>?_,λh=>?_⟩
 ·simp only[if_true];exact no λk=>by grind [jz.shares]
 ·simp only[hZ,nI] at h;have S:=g.1 h;rw[LN hl S,aw,bq];refine ⟨λq=>no λk=>by grind [jz.Us],λq=>?_⟩;have t:ky l=j.aL:=by simp_all
  rw[bq];refine ⟨λu=>no λk=>by have:=k.q;grind,λu=>?_⟩;have a:0<=j.Queue/\j.Queue<s.aq.length:=by simp_all
  obtain ⟨d,e⟩:=AV a.1 a.2;have m:=k.eH.ok _ (bA d);obtain ⟨v,w⟩:=AV m.part.1 m.part.2;have lp:=hs.part _ (bA v);have y:(s.aG[((s.aq[j.Queue.toNat]?).getD default).Part.toNat]?).getD []=s.aG[s.aq[j.Queue.toNat].Part.toNat]:=by simp_all
  rw[e,aw,w,aw];refine LH l (λx=>x.Node∈s.aG[s.aq[j.Queue.toNat].Part.toNat]) _ (λk x d=>by rw[<-y];exact k.part x d) (λi f n Q z A=>?_) (λf E=>?_) (by omega)
  ·simp only[cS n,if_true,bY n,aw,bV (show i<1000000 by omega)];refine (Ma _ (jk lp (by decide)) _).bind λr g=>?_;simp only[bq,aY,hZ,nI]
   grind
  ·simp only[eR,b_,cw,aY,OO];exact ⟨S,t,a,by simp_all⟩
def ZO{s:aX}(hs:iE s)(k:ba s)(j:aJ)(l:List dk)(hl:l.length<=300):fe (zeu 5000 s j l) (jz s j l):=by
 have no:∀{p:Prop},¬p->bQ (some false) (λb=>b=true↔p):=λh=>by rw[aY];simp[h]
 simp only[zeu,eE];refine (Hf l _ hl).bind λr g=>?_;rw[bq];refine ⟨λh=>?_,λh=>?_⟩
 ·simp only[if_true];exact no λk=>by grind [jz.shares]
 ·simp only[hZ,nI] at h;have S:=g.1 h;rw[UB hl S,aw,bq];refine ⟨λt=>no λk=>by have:=k.Us;have:=k.q;grind,λt=>?_⟩;have m:ky l=j.aL/\0<=j.Queue/\j.Queue<s.aq.length:=by simp_all
  have a:=m.2;obtain ⟨d,e⟩:=AV a.1 a.2;have n:=k.eH.ok _ (bA d);obtain ⟨u,v⟩:=AV n.part.1 n.part.2;have lp:=hs.part _ (bA u);have w:(s.aG[((s.aq[j.Queue.toNat]?).getD default).Part.toNat]?).getD []=s.aG[s.aq[j.Queue.toNat].Part.toNat]:=by simp_all
  rw[e,aw,v,aw];refine LH l (λx=>x.Node∈s.aG[s.aq[j.Queue.toNat].Part.toNat]) _ (λk x d=>by rw[<-w];exact k.part x d) (λi f q Q y z=>?_) (λf A=>?_) (by omega)
  ·simp only[cS q,if_true,bY q,aw,bV (show i<1000000 by omega)];refine (ref_has _ (jk lp (by decide)) _).bind λr g=>?_;simp only[bq,aY,hZ,nI]
   grind
  ·simp only[eR,b_,cw,aY,OO];exact ⟨S,m.1,a,by simp_all⟩
def cmp:Nat->aF->Int
 |0,r=>r.bI
 |1,r=>r.Mem
 |2,r=>r.bM
 |_,r=>r.bR
theorem v_{r:aF}:aN r↔∀c,0<=cmp c r/\cmp c r<=1048576:=by
 constructor
 ·intro h c
  match c with
  |0=>exact h.FL
  |1=>exact h.mem
  |2=>exact h.KD
  |_+3=>exact h.KP
 ·intro h;exact ⟨h 0,h 1,h 2,h 3⟩
def Oy{a b:aF}(h:∀c,cmp c a=cmp c b):a=b:=by
 obtain ⟨d,e,f,g⟩:=a;obtain ⟨i,j,k,l⟩:=b;have m:=h 0;have n:=h 1;have p:=h 2;have q:=h 3
 grind [cmp]
def fD(a b:aF):aF:={ bI:=a.bI-b.bI,Mem:=a.Mem-b.Mem,bM:=a.bM-b.bM,bR:=a.bR-b.bR }
def BA(a b:aF):aF:={ bI:=a.bI+b.bI,Mem:=a.Mem+b.Mem,bM:=a.bM+b.bM,bR:=a.bR+b.bR }
def mulR(n:Int)(a:aF):aF:={ bI:=n * a.bI,Mem:=n * a.Mem,bM:=n * a.bM,bR:=n * a.bR }
theorem Co(c:Nat)(a b:aF):cmp c (fD a b)=cmp c a-cmp c b:=by match c with | 0=>rfl | 1=>rfl | 2=>rfl | _+3=>rfl
theorem vU(c:Nat)(a b:aF):cmp c (BA a b)=cmp c a+cmp c b:=by match c with | 0=>rfl | 1=>rfl | 2=>rfl | _+3=>rfl
theorem A_(c:Nat)(n:Int)(a:aF):cmp c (mulR n a)=n * cmp c a:=by match c with | 0=>rfl | 1=>rfl | 2=>rfl | _+3=>rfl
theorem Oe(c:Nat):cmp c bK=0:=by match c with | 0=>rfl | 1=>rfl | 2=>rfl | _+3=>rfl
theorem Do{a:Int}(h:a.natAbs<2 ^ 53):zC a=some a:=by unfold zC;simp_all
def HD{a b c d:Int}(e:a.natAbs<2 ^ 53)(hb:b.natAbs<2 ^ 53)(f:c.natAbs<2 ^ 53)(g:d.natAbs<2 ^ 53) :
  bQ (zdF 5000 (a,b) (c,d)) λr=>(r.2=0↔aN ⟨a,b,c,d⟩)/\(r.2=0->r.1=⟨a,b,c,d⟩):=by
 simp only[zdF,lX,Do e,Do hb,Do f,Do g,aw];refine (Up _).bind λr h=>?_;simp only[bq,aY,hZ,nI]
 grind
def gF{n x:Int}(a:0<=n/\n<=64)(d:0<=x/\x<=1048576):0<=n * x/\n * x<=67108864:=by have e:0<=n * x:=yBT a.1 d.1;have f:n * x<=64 * x:=yAY a.2 d.1;omega
def Ny{a:aF}{n:Int}(d:aN a)(m:1<=n/\n<=64):bQ (pH 5000 a n) λr=>(r.2=0↔aN (mulR n a))/\(r.2=0->r.1=mulR n a):=by
 simp only[pH];obtain ⟨p,i,j⟩:=Up a;have k:=j.2 d;subst k;have e:0<=n/\n<=64:=by omega
 simp only[i,aw,Ot,Bool.false_or];rw[if_neg (by simp_all)];by_cases g:a=bK
 ·subst g;rw[if_pos (by exact gZ.2 rfl),aY];have:mulR n bK=bK:=by simp[mulR,bK]
  rw[this];exact ⟨⟨λ_=>⟨by simp[bK],by simp[bK],by simp[bK],by simp[bK]⟩,λ_=>rfl⟩,λ_=>rfl⟩
 ·rw[if_neg (show ¬(aF.beq a ({ bI:=0,Mem:=0,bM:=0,bR:=0 }:aF)=true) from λh=>g (gZ.1 h)),if_neg (by grind)];have f:∀{x:Int},0<=x/\x<=1048576->xY x n=some (x * n):=λ{x} q=>by unfold xY;grind
  have s:=gF e d.FL;have t:=gF e d.mem;have u:=gF e d.KD;have v:=gF e d.KP;simp only[zdp,aw,f d.FL,f d.mem,f d.KD,f d.KP];rw[Int.mul_comm a.bI n,Int.mul_comm a.Mem n,Int.mul_comm a.bM n,Int.mul_comm a.bR n];refine (HD (by omega) (by omega) (by omega) (by omega)).bind λr l=>?_;rw[aY];exact l
def sub_ok{a b:aF}(d:aN a)(hb:aN b):bQ (zH 5000 a b) λr=>(r.2=0↔aN (fD a b))/\(r.2=0->r.1=fD a b):=by
 simp only[zH,eE];obtain ⟨m,f,g⟩:=Up a;have h:=g.2 d;subst h;obtain ⟨n,i,j⟩:=Up b;have k:=j.2 hb;subst k;have e:∀{x y:Int},0<=x/\x<=1048576->0<=y/\y<=1048576->xV x y=some (x-y):=λ{x y} p q=>by unfold xV;grind
 simp only[f,i,aw,Ot,b_,cw,zdp,e d.FL hb.FL,e d.mem hb.mem,e d.KD hb.KD,e d.KP hb.KP];have:=d.FL;have:=d.mem;have:=d.KD;have:=d.KP;have:=hb.FL;have:=hb.mem;have:=hb.KD;have:=hb.KP;refine (HD (by omega) (by omega) (by omega) (by omega)).bind λr l=>?_;rw[aY];exact l
def dM(l:List dk)(i:Int):Int:=(l.map λx=>if x.Node=i then x.aL else 0).sum
def mY{l:List dk}{k:Nat}(h:k<l.length)(i:Int):dM (l.take (k+1)) i=dM (l.take k) i+if l[k].Node=i then l[k].aL else 0:=by grind [List.take_succ_eq_append_getElem,dM]
theorem yi{l:List dk}(h:∀x∈l,0<=x.aL)(i:Int):0<=dM l i:=by
 induction l with
 |nil=>simp[dM]
 |cons x l ih=>grind [dM]
def SL{l m:List dk}(i:Int):dM (l++m) i=dM l i+dM m i:=by simp[dM]
def Xm{l:List dk}(h:∀x∈l,0<=x.aL)(k:Nat)(i:Int):dM (l.take k) i<=dM l i:=by have:=SL (l:=l.take k) (m:=l.drop k) i;rw[JN] at this;have:=yi (l:=l.drop k) (λx a=>h x (yBp a)) i;omega
theorem rz{l:List dk}{n:Int}(h:bo l n)(i:Int):0<=dM l i/\dM l i<=64:=by
 refine ⟨yi (λx d=>by have:=h.mem x d;omega) i,?_⟩;have a:∀k,k<=l.length->(dM (l.take k) i<=64/\(dM (l.take k) i≠0->i<=KN (l.map (·.Node)) k)):=by
  intro k;induction k with
  |zero=>grind [dM]
  |succ k ih=>intro hk;obtain ⟨e,f⟩:=ih (by omega);have s:=h k (by omega);have s1:=s.up;have g:=s.lt;have j:=s.lo;have m:=s.hi;rw[mY (by omega),qJ (show k<l.length by omega)];omega
 have:=(a l.length (cP _)).1
 simp_all
theorem Ps{l:List dk}{n:Int}(hl:l.length<=300)(h:bo l n)(i:Int):zdg 5000 l i=some (dM l i):=by
 simp only[zdg,eE];refine bQ.eq (iL l.length (λk x=>x=(dM (l.take k) i,(k:Int))) (λk x f hi a g=>?_) (λx f a=>?_) (by simp[dM]) (by omega))
 ·subst a;have q:=h.mem _ (bA hi);have b:=yi (l:=l.take k) (λx a=>by have:=h.mem x (Mx a);omega) i;have j:=Xm (λx a=>by have:=h.mem x a;omega) k i;have m:=rz h i;have e:=mY hi i;simp only[cS hi,if_true,bY hi,aw,bV (show k<1000000 by omega),bq,lA];refine ⟨λd=>?_,λd=>g _ ?_⟩
  ·rw[if_pos d] at e
   grind [wr]
  simp_all
 ·subst a;simp only[eR,b_,cw,aY,xB]
def qw(a:bW)(i:Nat)(r:aF):aF:=fD r (mulR (dM a.aj i) a.ay)
def uJ(F:List aF)(a:bW):Prop:=∀i (h:i<F.length),aN (qw a i F[i])
structure rH (F:List aF) (a:bW) (G:List aF):Prop where
 len:G.length=F.length
 cN:∀i (h:i<G.length),G[i]=qw a i (F[i]'(by omega))
def T_{a:bW}{F:List aF}(hF:F.length<=300)(hl:a.aj.length<=300)(N:bo a.aj F.length)(E:aN a.ay)(S:∀r∈F,aN r) :
  bQ (zbM 5000 a F) λr=>(r.2=0↔uJ F a)/\(r.2=0->rH F a r.1):=by
 simp only[zbM,zbx,Eh (show F.length<=1000000 by omega),aw];have nn:∀x∈a.aj,0<=x.aL:=λx p=>by have:=N.mem x p;omega
 refine iL a.aj.length (λk x=>x.1=(k:Int)/\x.2.length=F.length/\(∀r∈x.2,aN r)/\∀i (h:i<x.2.length) (j:i<F.length),x.2[i]=fD F[i] (mulR (dM (a.aj.take k) i) a.ay)) (λk x f hk p T=>?_) (λx f p=>?_) ⟨rfl,rfl,S,λi h j=>?_⟩ (by omega)
 ·obtain ⟨U,G⟩:=x;obtain ⟨rfl,g,m,d⟩:=p;dsimp only at g m d ⊢;have q:=N.mem _ (bA hk);have O:a.aj[k].Node.toNat<G.length:=by omega
  have u:a.aj[k].Node.toNat<F.length:=by omega
  have K:((a.aj[k].Node.toNat:Nat):Int)=a.aj[k].Node:=by omega
  have W:=mY hk a.aj[k].Node;rw[if_pos rfl] at W;have le:=Xm nn (k+1) a.aj[k].Node;have n0:=yi (l:=a.aj.take k) (λx p=>nn x (Mx p)) a.aj[k].Node;have L:=d _ O u;rw[K] at L;have bad:(∃c,cmp c G[a.aj[k].Node.toNat]-a.aj[k].aL * cmp c a.ay<0)->¬uJ F a:=λ⟨c,w⟩ y=>by
   have M:=v_.1 (y _ u) c;rw[qw,Co,A_,K] at M;rw[L,Co,A_] at w;have z:0<=cmp c a.ay:=(v_.1 E c).1;have h3:(dM (a.aj.take k) a.aj[k].Node+a.aj[k].aL) * cmp c a.ay<=dM a.aj a.aj[k].Node * cmp c a.ay:=yAY (by omega) z
   grind
  simp only[cS hk,if_true,bY hk,aw,bV (show k<1000000 by omega)];refine (Ny E q.2.2).bind λr s=>?_;simp only[bq,aY,HU,ne_eq,Un];refine ⟨λh=>⟨⟨λj=>absurd j h,λy=>?_⟩,λj=>absurd j h⟩,λh=>?_⟩
  ·exfalso;refine bad ?_ y;have n:¬aN (mulR a.aj[k].aL a.ay):=λv=>h (s.1.2 v);rw[v_] at n;obtain ⟨c,w⟩:=Classical.not_forall.1 n;refine ⟨c,?_⟩;rw[A_] at w;have M:=gF (show 0<=a.aj[k].aL/\a.aj[k].aL<=64 by omega) (v_.1 E c)
   grind [v_,List.getElem_mem]
  ·have σ:=s.2 h;have Z:=s.1.1 h;obtain ⟨aa,e⟩:=AV (l:=G) (x:=a.aj[k].Node) (by omega) (by omega);rw[e,aw,σ];refine (sub_ok (m _ (bA O)) Z).bind λr2 t=>?_;simp only[aw,bq,aY,HU,ne_eq,Un];refine ⟨λj=>⟨⟨λz=>absurd z j,λy=>?_⟩,λz=>absurd z j⟩,λj=>?_⟩
   ·exfalso;refine bad ?_ y;have n:¬aN (fD G[a.aj[k].Node.toNat] (mulR a.aj[k].aL a.ay)):=λv=>j (t.1.2 v);rw[v_] at n;obtain ⟨c,w⟩:=Classical.not_forall.1 n;refine ⟨c,?_⟩;rw[Co,A_] at w;have M:=gF (show 0<=a.aj[k].aL/\a.aj[k].aL<=64 by omega) (v_.1 E c)
    grind [v_,List.getElem_mem]
   ·have e2:=t.2 j;have v2:=t.1.1 j;refine T _ ⟨rfl,by simp_all,λr ab=>?_,λi hi ad=>?_⟩
    ·grind
    ·dsimp only at hi ⊢;rw[WD] at hi;rw[List.getElem_set];have A:=mY hk (i:Int);split
     ·rename_i ei;subst ei;rw[e2,L];rw[if_pos K.symm] at A;rw[A];refine Oy λc=>?_;rw[Co,Co,Co,A_,A_,A_,Int.add_mul,K];omega
     grind
 ·obtain ⟨U,G⟩:=x;obtain ⟨rfl,g,m,d⟩:=p;dsimp only at g m d ⊢;simp only[eR,b_,cw,aY,xB,OO,true_implies] at d ⊢;refine ⟨λi h=>?_,g,λi h=>d i h (by omega)⟩;have:=m _ (bA (show i<G.length by omega));rw[d i (by omega) h] at this;exact this
 ·refine Oy λc=>?_;rw[Co,A_];simp[dM]
theorem GK{a:bW}(h:a.aj.length<=1000000):ju 5000 a=some a:=by simp only[ju,zby,Eh h,aw]
structure ut (M:List (Int×bW)) (F:List aF) (a:bW):Prop where
 Fx:1<=a.bj/\a.bj<=1048576
 some':a.aj≠[]
 shares:bo a.aj F.length
 need:aN a.ay
 free:dm M a.bj=none
 fits:uJ F a
def Jt{M:List (Int×bW)}{a:bW}{F:List aF}(g:F.length<=300)(hl:a.aj.length<=300)(i:∀r∈F,aN r) :
  bQ (zaV 5000 M a F) λr=>(r.2.1=0↔ut M F a)/\(r.2.1=0->r.1=kA M a.bj a/\rH F a r.2.2):=by
 simp only[zaV,eE,if_true,b_,cw];have no:∀{p:Prop}{x:List (Int×bW)×Int×List aF}{q:Prop},¬p->x.2.1≠0->bQ (some x) (λr=>(r.2.1=0↔p)/\(r.2.1=0->r.1=kA M a.bj a/\rH F a r.2.2)):=λ{p x q} l m=>by grind [aY]
 rw[bq];refine ⟨λh=>?_,λh=>?_⟩
 ·simp only[gE,bz,lA] at h;refine no (q:=True) (λt=>?_) (by simp);have:=t.Fx;rcases h with h | h
  ·omega
  ·exact t.some' (ZI (by omega))
 ·simp only[gE,bz,lA,not_or] at h;refine (nV _ _ hl).bind λr j=>?_;rw[bq];refine ⟨λe=>no (q:=True) (λt=>by grind [ut.shares]) (by simp),λe=>?_⟩;simp only[hZ,nI] at e;have S:=j.1 e;refine (Up a.ay).bind λn f=>?_;rw[bq];refine ⟨λe=>no (q:=True) (λt=>by grind [ut.need]) (by simp),λe=>?_⟩;simp only[hZ,nI] at e;have V:=f.1 e;cases k:dm M a.bj with
  |some v=>exact no (q:=True) (λt=>by grind [ut.free]) (by simp)
  |none=>
   simp only[oel];refine (T_ g hl S V i).bind λs d=>?_;rw[bq];refine ⟨λe=>?_,λe=>?_⟩
   ·simp only[HU,ne_eq] at e;exact no (q:=True) (λt=>e (d.1.2 t.fits)) e
   ·simp only[HU,ne_eq,Un] at e;rw[GK (by omega),aw,aY];refine ⟨⟨λ_=>⟨by omega,λu=>?_,S,V,k,d.1.1 e⟩,λ_=>rfl⟩,λ_=>⟨rfl,d.2 e⟩⟩
    simp_all
def cY{p:Prop}(h:¬p):bQ (some false) (λb=>b=true↔p):=by grind [aY]
def pY{p:Prop}(h:p):bQ (some true) (λb=>b=true↔p):=by grind [aY]
structure Qz (s:aX) (st:bZ):Prop where
 now:0<=st.aO/\st.aO<=1099511627776
 next:1<=st.Next/\st.Next<=s.iN+1
 book:1<=st.dr/\st.dr<=281474976710656
def QR{s:aX}(k:ba s)(st:bZ):fe (jA 5000 s st) (Qz s st):=by have f:=k.ids;simp only[jA,zdt,aw,fe];rw[wr (x:=s.iN+1) (by omega) (by omega)];simp only[bq,aY,bG,bz,b_,FH];exact ⟨λa=>⟨λd=>⟨λe=>⟨a,d,e⟩,λh=>h.book⟩,λd h=>d h.next⟩,λa h=>a h.now⟩
def jv(x:Int):Int:=if x=3 then 1 else if x=4 then 2 else if x=5\/x=6 then 3 else 0
def Fk(x:Int):0<=jv x/\jv x<=3:=by unfold jv;split <;> (try split) <;> (try split) <;> omega
theorem XI(x:Int):nU 5000 x=some (jv x):=by
 simp only[nU,VY,aw,lA,gE]
 grind [jv]
structure gq (s:aX) (st:bZ) (j:aJ):Prop where
 ok:dh j
 next:j.Id<st.Next
 user:j.bL<s.aP
 queue:j.Queue<s.aq.length
 born:j.cA<=st.aO
 start:j.Start<=st.aO
 fin:j.End<=st.aO
 version:j.aK<=s.aI+jv j.State
def Ja(l:List aJ):Nat->Int
 |0=>0
 |i+1=>((l[i]?).map (·.Id)).getD 0
theorem vT{l:List aJ}{i:Nat}(h:i<l.length):Ja l (i+1)=l[i].Id:=by simp[Ja,h]
structure dz (s:aX) (st:bZ):Prop where
 len:(st.ah.length:Int)<=s.ah
 each:∀j∈st.ah,gq s st j
 bH:bU st.ah
def SI{s:aX}{st:bZ}(h:(st.ah.length:Int)<=s.ah)(g:∀i (h:i<st.ah.length),gq s st st.ah[i]/\Ja st.ah i<st.ah[i].Id):dz s st:=
 ⟨h,λj a=>by grind [List.getElem_of_mem],λi hi=>by grind [vT]⟩
theorem dz.cN{s:aX}{st:bZ}(h:dz s st)(i:Nat)(hi:i<st.ah.length):gq s st st.ah[i]/\Ja st.ah i<st.ah[i].Id:=by
 refine ⟨h.each _ (bA hi),?_⟩
 match i,hi with
 |0,hi=>have:=(h.each _ (bA hi)).ok.id;grind [Ja]
 |i+1,hi=>rw[vT (by omega)];exact h.bH i hi
theorem dz.ids{s:aX}{st:bZ}(h:dz s st):∀j∈st.ah,0<=j.Id/\j.Id<=1048576:=λj i=>by have:=(h.each j i).ok.id;omega
theorem max3{a b c n:Int}:(if c > (if b > a then b else a) then c else (if b > a then b else a)) > n↔a > n\/b > n\/c > n:=by omega
def jobs_ok{s:aX}(k:ba s){st:bZ}(n:kF s st):fe (qT 5000 s st) (dz s st):=by
 have y:=k.ub;have hl:=n.bm;simp only[qT,eE,XI,aw];rw[fe,bq];refine ⟨λh=>cY λq=>?_,λp=>?_⟩
 ·have:=q.len
  grind
 ·simp only[bz] at p;refine iL st.ah.length (λi x=>x=(Ja st.ah i,(i:Int))/\∀j (h:j<st.ah.length),j<i->gq s st st.ah[j]/\Ja st.ah j<st.ah[j].Id) (λi x f hi e t=>?_) (λx f e=>?_) ⟨rfl,λj h g=>by omega⟩ (by omega)
  ·obtain ⟨rfl,m⟩:=e;simp only[cS hi,if_true,bY hi,aw,bV (show i<1000000 by omega)];refine (BN _).bind λr d=>?_;rw[bq];refine ⟨λh=>cY λq=>?_,λh=>?_⟩
   ·have a:=q.cN i hi;have z:=d.2 a.1.ok;have A:=a.1.next
    grind
   ·simp only[gE,bz,not_or,hZ,nI] at h;have a:=d.1 h.1.1;rw[bq];refine ⟨λh=>cY λq=>?_,λu=>?_⟩
    ·have a:=(q.cN i hi).1;have:=a.user;have:=a.queue
     grind
    ·simp only[gE,bz,not_or] at u;rw[bq];refine ⟨λh=>?_,λv=>?_⟩
     ·refine cY λq=>?_;have a:=(q.cN i hi).1;have:=a.born;have:=a.start;have:=a.fin
      grind
     ·simp only[bz,max3] at v;have E:=Fk st.ah[i].State;rw[wr (x:=s.aI+jv _) (by omega) (by omega),bq];refine ⟨λh=>cY λq=>?_,λw=>t _ ⟨by rw[vT hi],λj F l=>?_⟩⟩
      ·have a:=(q.cN i hi).1.version
       grind
      ·simp only[bz] at w;rcases VX (yCz.1 l) with g | g
       ·simp_all
       ·subst g;exact ⟨⟨a,by omega,by omega,by omega,by omega,by omega,by omega,by omega⟩,by omega⟩
  ·obtain ⟨rfl,m⟩:=e;simp only[eR,b_,cw];exact pY (SI (by omega) λi hi=>m i hi hi)
structure WaitsIn (s:aX) (st:bZ) (j:aJ):Prop where
 fits:zeP 5000 s j.Queue j.aL j.ay=some true
 after:∀d∈j.aE,∃i∈st.ah,i.Id=d.bj
def Hg(s:aX)(st:bZ)(j:aJ):Prop:=j.State<5->WaitsIn s st j
def PE{s:aX}(k:ba s){st:bZ}(n:kF s st)(J:dz s st):fe (jH 5000 s st) (∀j∈st.ah,Hg s st j):=by
 have hl:=n.bm;simp only[jH,eE,VY,aw];refine LH st.ah (Hg s st) _ (λh=>h) (λi f hi Q p t=>?_) (λf h=>?_) (by omega)
 ·simp only[cS hi,if_true,bY hi,aw,bV (show i<1000000 by omega)];have a:=J.each _ (bA hi);have x:=a.ok.state.st;rw[bq];refine ⟨λh=>p λhs=>?_,λh=>?_⟩
  ·grind
  ·simp only[gE,lA,not_or] at h;have hs:st.ah[i].State<5:=by omega
   obtain ⟨b,u,A⟩:=Ti n.spec k (q:=st.ah[i].Queue) (m:=st.ah[i].aL) a.ok.need a.ok.rZ;rw[u,aw,bq];refine ⟨λhb=>?_,λhb=>?_⟩
   ·rw[aY];refine t λw=>?_;have:=(w hs).fits
    simp_all
   ·simp only[hZ,nI] at hb;subst hb;have E:=a.ok.kI;refine xX st.ah[i].aE (λ_ d=>∃j∈st.ah,j.Id=d.bj) (λm g e v y=>?_) (λg v=>?_) (by omega)
    ·simp only[cS e,if_true,bY e,aw,bV (show m<1000000 by omega)];have F:=a.ok.after _ (bA e);have z:=a.ok.id;refine (Tt (by omega) J.bH (id:=st.ah[i].aE[m].bj) (by omega) J.ids).bind λr l=>?_;rw[bq];refine ⟨λhb=>?_,λhb=>y ?_⟩
     ·rw[aY];refine t λw=>?_;have:=l.1.2 ((w hs).after _ (bA e))
      simp_all
     simp_all
    ·simp only[eR,b_,cw];exact p λ_=>⟨u,De v⟩
 ·simp only[eR,b_,cw];exact pY h
structure Nh (s:aX) (st:bZ):Prop where
 len:(st.eJ.length:Int)=s.aP
 use:∀x∈st.eJ,0<=x/\x<=1099511627776
 qlen:st.az.aq.length=s.aq.length
 nodes:0<=st.az.am/\st.az.am<=281474976710656
 stamps:∀x∈st.az.aq,0<=x/\x<=281474976710656
def Oh(l:List Int)(hl:l.length<=300):fe (oj 5000 l) (∀x∈l,0<=x/\x<=1099511627776):=by
 simp only[oj];refine LH l (λx=>0<=x/\x<=1099511627776) _ (λh=>h) (λi f hi Q a d=>?_) (λf h=>?_) (by omega)
 ·simp only[cS hi,if_true,bY hi,aw,bV (show i<1000000 by omega),bq,aY,gE,bz]
  grind
 ·simp only[eR,b_,cw];exact pY h
def XZ{s:aX}{st:bZ}(j:kF s st):fe (oC 5000 s st) (Nh s st):=by
 have l:=j.use;have m:=j.stamps;simp only[oC,eE,zdt,aw,if_true];rw[fe,bq];refine ⟨λh=>cY λq=>?_,λh=>?_⟩
 ·simp only[HU,ne_eq] at h;exact h q.len
 ·simp only[HU,ne_eq,Un] at h;refine (Oh st.eJ (by omega)).bind λr k=>?_;rw[bq];refine ⟨λa=>cY λq=>?_,λa=>?_⟩
  ·have:=k.2 q.use
   simp_all
  ·simp only[hZ,nI] at a;rw[bq];refine ⟨λd=>cY λq=>?_,λd=>?_⟩
   ·simp only[HU,ne_eq] at d
    grind [Nh.qlen]
   ·simp only[HU,ne_eq,Un] at d;rw[bq];refine ⟨λe=>cY λq=>?_,λe=>?_⟩
    ·grind [Nh.nodes]
    ·simp only[hZ,nI,bG,bz] at e;refine LH st.az.aq (λx=>0<=x/\x<=281474976710656) _ (λh=>h.stamps) (λi f hi Q n p=>?_) (λf g=>?_) (by omega)
     ·simp only[cS hi,if_true,bY hi,aw,bV (show i<1000000 by omega),bq,aY,hZ,yBD,yBn]
      grind
     ·simp only[eR,b_,cw];exact pY ⟨h,k.1 a,by omega,e,g⟩
def ref_use(l:List Int)(n:Int)(hl:l.length<=300):fe (zeX 5000 l n) ((l.length:Int)=n/\∀x∈l,0<=x/\x<=1099511627776):=by
 simp only[zeX,eE];refine LH l (λx=>0<=x/\x<=1099511627776) _ (λh=>h.2) (λi f hi Q a d=>?_) (λf h=>?_) (by omega)
 ·simp only[cS hi,if_true,bY hi,aw,bV (show i<1000000 by omega),bq,aY,bz]
  grind
 ·simp only[eR,b_,cw,aY,lA]
  simp_all
def Kx(x:Int):fe (zbn 5000 x) (0<=x/\x<=281474976710656):=by simp only[zbn,fe,aY,bG,bz,ge_iff_le]
structure dN (l:List bS):Prop where
 ne:0<l.length
 inc:∀i (h:i+1<l.length),l[i].At<l[i+1].At
 each:∀s∈l,(0<=s.At/\s.At<=281474976710656)/\aN s.cy
theorem dN.lt{l:List bS}(h:dN l):∀{i j:Nat}(s:i<j)(u:j<l.length),l[i].At<l[j].At:=by
 intro i j s u;induction j with
 |zero=>omega
 |succ j ih=>
  have x:=h.inc j u
  grind
theorem dN.le{l:List bS}(h:dN l){i j:Nat}(s:i<=j)(x:j<l.length):l[i].At<=l[j].At:=by
 rcases VX s with u | u
 ·have:=h.lt u x;omega
 simp_all
def dN.idx{l:List bS}(h:dN l){i j:Nat}(hi:i<l.length)(u:j<l.length)(e:l[i].At=l[j].At):i=j:=by
 rcases Wh i j with s | s | s
 ·have:=h.lt s u;omega
 ·exact s
 ·have:=h.lt s hi;omega
theorem dN.inj{l:List bS}(h:dN l){a b:bS}(s:a∈l)(hb:b∈l)(e:a.At=b.At):a=b:=by
 obtain ⟨i,hi,rfl⟩:=iM s;obtain ⟨j,u,rfl⟩:=iM hb;have:=h.idx hi u e
 simp_all
def HQ(l:List bS):Int:=l.foldl (λ_ s=>s.At) (-1)
theorem yS{l:List bS}{i:Nat}(h:i<l.length):HQ (l.take (i+1))=l[i].At:=by rw[Hw h,HQ,List.foldl_append];rfl
def PM(l:List bS)(i:Nat)(s:bS):Prop:=HQ (l.take i)<s.At/\s.At<=281474976710656/\aN s.cy
theorem stOk_of{l:List bS}(d:0<l.length)(h:∀i (hi:i<l.length),PM l i l[i]):dN l:=by
 have a:∀i (h:i+1<l.length),l[i].At<l[i+1].At:=λi hi=>by
  have:=(h (i+1) hi).1
  grind [yS]
 have e:∀i (hi:i<l.length),0<=l[i].At:=by
  intro i;induction i with
  |zero=>intro hi;have:=(h 0 hi).1;grind [HQ]
  |succ i ih=>grind
 exact ⟨d,a,De (A:=λs=>(0<=s.At/\s.At<=281474976710656)/\aN s.cy) λi hi=>⟨⟨e i hi,(h i hi).2.1⟩,(h i hi).2.2⟩⟩
theorem dN.cN{l:List bS}(h:dN l)(i:Nat)(hi:i<l.length):PM l i l[i]:=by
 have e:=h.each _ (bA hi);refine ⟨?_,e.1.2,e.2⟩
 match i,hi with
 |0,hi=>grind [HQ]
 |i+1,hi=>rw[yS (by omega)];exact h.inc i hi
def LV(l:List bS)(hl:l.length<=1000):fe (zel 5000 l) (dN l):=by
 unfold zel;refine iL l.length (λi x=>x=(HQ (l.take i),(i:Int))/\∀j (m:j<l.length),j<i->PM l j l[j]) (λi x f hi d n=>?_) (λx f d=>?_) ⟨rfl,λj _ h=>by omega⟩ (by omega)
 ·obtain ⟨rfl,p⟩:=d;simp only[eE];rw[if_pos (cS hi),bY hi,aw,bq];refine ⟨λh=>?_,λh=>?_⟩
  ·rw[if_pos trivial];refine cY λq=>?_;have:=q.cN i hi;simp only[gE,bz] at h;have:=this.1;have:=(q.cN i hi).2.1;omega
  ·refine (Up _).bind λr a=>?_;rw[bq];refine ⟨λe=>cY λq=>?_,λe=>?_⟩
   ·have:=a.2 (q.cN i hi).2.2
    simp_all
   ·simp only[hZ,nI] at e;simp only[gE,bz,not_or] at h;rw[bV (show i<1000000 by omega)];refine n _ ⟨by rw[yS hi],λj m g=>?_⟩;rcases VX (yCz.1 g) with k | k
    ·simp_all
    ·subst k;exact ⟨by omega,by omega,a.1 e⟩
 ·obtain ⟨rfl,p⟩:=d;simp only;rw[if_neg (by simp),aY,bz]
  grind [stOk_of,dN.ne]
def jF{l:List bS}(hl:l.length<=1000)(h:dN l):zel 5000 l=some true:=by
 obtain ⟨r,e,a⟩:=LV l hl
 simp_all
structure Idx (l:List bS) (t:Int) (k:Nat):Prop where
 le:k<=l.length
 lo:∀i (h:i<l.length),i<k->l[i].At<=t
 hi:∀i (h:i<l.length),k<=i->t<l[i].At
def zcN{l:List bS}(hl:l.length<=1000)(hs:dN l)(t:Int):bQ (fY 5000 l t) λr=>∃k,Idx l t k/\r=(k:Int)-1:=by
 unfold fY;rw[ki];refine lpM (λx=>∃i j:Nat,x=((i:Int),(j:Int))/\i<=j/\j<=l.length/\(∀k (h:k<l.length),k<i->l[k].At<=t)/\(∀k (h:k<l.length),j<=k->t<l[k].At)) (λx=>(x.2-x.1).toNat) (λx f q e=>?_) ⟨0,l.length,rfl,by omega,by omega,λk h hk=>by omega,λk h hk=>by omega⟩ (by omega);obtain ⟨i,j,rfl,s,g,m,n⟩:=q;rw[bq];dsimp only;refine ⟨λh=>?_,λh=>?_⟩
 ·simp only[bz] at h;rw[mid (by omega)];have p:(i+j) / 2<l.length:=by omega
  rw[bY p,aw,aw,bq];refine ⟨λd=>?_,λd=>?_⟩
  ·simp only[hZ,yBn] at d;rw[bV (by omega)];refine e _ ⟨(i+j) / 2+1,j,rfl,by omega,g,λk hk a=>?_,n⟩ (by omega);have:=hs.le (show k<=(i+j) / 2 by omega) p;omega
  ·simp only[hZ,yBn] at d;refine e _ ⟨i,(i+j) / 2,rfl,by omega,by omega,m,λk hk a=>?_⟩ (by omega);have:=hs.le a hk;omega
 ·simp only[bz] at h;have:i=j:=by omega
  subst this;simp only[aY];exact ⟨i,⟨g,m,n⟩,by grind [wr]⟩
def Idx.pos{l:List bS}{t:Int}{k:Nat}(h:Idx l t k)(hs:dN l)(i:(l[0]'hs.ne).At<=t):0<k:=by
 rcases Nat.eq_zero_or_pos k with e | e
 ·subst e;have:=h.hi 0 hs.ne (cP _);omega
 omega
def yL(l:List bS)(t:Int)(r:aF):Prop:=∃s∈l,s.At<=t/\(∀a∈l,a.At<=t->a.At<=s.At)/\s.cy=r
def yL.By{l:List bS}(hs:dN l){t:Int}{r j:aF}(h:yL l t r)(u:yL l t j):r=j:=by obtain ⟨s,x,F,G,rfl⟩:=h;obtain ⟨z,i,A,E,rfl⟩:=u;have:s=z:=hs.inj x i (by grind);rw[this]
theorem yL.ok{l:List bS}(hs:dN l){t:Int}{r:aF}(h:yL l t r):aN r:=by obtain ⟨s,i,_,_,rfl⟩:=h;exact (hs.each s i).2
def Idx.vat{l:List bS}{t:Int}{k:Nat}(h:Idx l t (k+1))(hs:dN l)(hk:k<l.length):yL l t l[k].cy:=by
 refine ⟨l[k],bA hk,h.lo k hk (by omega),λj SX s=>?_,rfl⟩;obtain ⟨i,hi,rfl⟩:=iM SX;by_cases q:i<=k
 ·exact hs.le q hk
 ·have:=h.hi i hi (by omega);omega
structure Gu (L:List aF) (r:aF):Prop where
 le:∀v∈L,∀c,cmp c r<=cmp c v
 cN:∀c,∃v∈L,cmp c v=cmp c r
def uN(a b:aF):aF:={ bI:=if b.bI<a.bI then b.bI else a.bI,Mem:=if b.Mem<a.Mem then b.Mem else a.Mem,bM:=if b.bM<a.bM then b.bM else a.bM,bR:=if b.bR<a.bR then b.bR else a.bR }
def Io(c:Nat)(a b:aF):cmp c (uN a b)=if cmp c b<cmp c a then cmp c b else cmp c a:=by match c with | 0=>rfl | 1=>rfl | 2=>rfl | _+3=>rfl
def Xn(a b:aF):zdU 5000 a b=some (uN a b):=by
 have d:∀x y:Int,zcJ 5000 x y=some (if y<x then y else x):=λx y=>by
  unfold zcJ
  grind
 simp only[zdU,d,aw,uN]
theorem Gu.one(v:aF):Gu [v] v:=⟨λw i c=>by simp_all,λc=>⟨v,by simp,rfl⟩⟩
theorem Gu.add{L:List aF}{r:aF}(h:Gu L r)(v:aF):Gu (L++[v]) (uN r v):={
 le:=λw hw c=>by
  rw[Io];rcases kL.1 hw with hw | hw
  ·have:=h.le w hw c;omega
  grind
 cN:=λc=>by
  rw[Io];split
  ·simp_all
  ·obtain ⟨w,hw,e⟩:=h.cN c;grind }
structure Pw (V:Int->aF->Prop) (a b:Int) (r:aF):Prop where
 le:∀t v,a<=t->t<b->V t v->∀c,cmp c r<=cmp c v
 cN:∀c,∃t v,a<=t/\t<b/\V t v/\cmp c v=cmp c r
def Pw.By{V:Int->aF->Prop}{a b:Int}{r u:aF}(h:Pw V a b r)(x:Pw V a b u):r=u:=Oy λc=>by obtain ⟨t,v,z,A,E,e⟩:=h.cN c;obtain ⟨F,G,i,j,s,K⟩:=x.cN c;have:=h.le F G i j s c;have:=x.le t v z A E c;omega
def Pw.iff{V W:Int->aF->Prop}{a b:Int}{r:aF}(h:Pw V a b r)(u:∀t v,a<=t->(V t v↔W t v)):Pw W a b r:=
 ⟨λt v i j s=>h.le t v i j ((u t v i).2 s),λc=>by obtain ⟨t,v,i,j,s,e⟩:=h.cN c;grind⟩
def jI{α:Type}{l:List α}{i:Nat}(h:i<=l.length):slice? l (i:Int) (l.length:Int)=some (l.drop i):=by
 unfold slice?
 simp_all
def Ld{l:List bS}(hl:l.length<=1000)(hs:dN l){a b:Int}(y:(l[0]'hs.ne).At<=a)(p:a<b):bQ (oa 5000 l a b) (Pw (yL l) a b):=by
 unfold oa;simp only[eE];rw[jF hl hs,aw,if_neg (by simp)];rw[show (0:Int)=((0:Nat):Int) from rfl,bY hs.ne,aw,if_neg (by simp_all)];refine (zcN hl hs a).bind λr q=>?_;obtain ⟨k,hk,rfl⟩:=q;have S:=hk.pos hs y;have z:=hk.le;obtain ⟨m,rfl⟩:∃m,k=m+1:=⟨k-1,by omega⟩;rw[show ((m+1:Nat):Int)-1=(m:Int) by omega,bY (show m<l.length by omega),aw,bV (by omega),jI (by omega),aw];have fin:∀(n:Nat)(v:aF),n<=(l.drop (m+1)).length->(∀(j:Nat)(h:j<(l.drop (m+1)).length),j<n->(l.drop (m+1))[j].At<b)->(∀(j:Nat)(h:j<(l.drop (m+1)).length),n<=j->b<=(l.drop (m+1))[j].At) ->
   Gu (l[m].cy::((l.drop (m+1)).take n).map (·.cy)) v->Pw (yL l) a b v:=λn v T A U d=>by
  have len:(l.drop (m+1)).length=l.length-(m+1):=yCb ..;refine ⟨λt w W E hw c=>?_,λc=>?_⟩
  ·obtain ⟨s,F,σ,G,rfl⟩:=hw;obtain ⟨i,hi,rfl⟩:=iM F;have Z:=G l[m] (bA _) (by have:=hk.lo m (by omega) (by omega);omega);refine d.le _ ?_ c;by_cases e:i=m
   ·simp_all
   ·have K:m<i:=by
     rcases Wh i m with h | h | h
     ·have:=hs.lt h (by omega);omega
     ·omega
     omega
    have L:i-(m+1)<n:=by grind
    refine o_ _ (iX.2 ⟨l[i],?_,rfl⟩)
    grind [List.mem_iff_getElem]
  ·obtain ⟨w,hw,e⟩:=d.cN c;rcases gy.1 hw with rfl | hw
   ·exact ⟨a,_,MG _,p,hk.vat hs (by omega),e⟩
   ·obtain ⟨s,SX,rfl⟩:=iX.1 hw;obtain ⟨j,g,rfl⟩:=OA.1 SX;rw[BZ] at g;rw[Rk] at e SX;have hb:=A j (by omega) (by omega);rw[yCn] at e hb;have ha:=hk.hi (m+1+j) (by omega) (by omega);refine ⟨l[m+1+j].At,_,by omega,hb,⟨l[m+1+j],bA _,MG _,λs' _ h=>h,rfl⟩,e⟩
 refine iL (l.drop (m+1)).length (λi x=>∃v:aF,x=((i:Int),v.bI,v.Mem,v.bM,v.bR)/\Gu (l[m].cy::((l.drop (m+1)).take i).map (·.cy)) v/\∀j (h:j<(l.drop (m+1)).length),j<i->(l.drop (m+1))[j].At<b) (λi x f hi u q=>?_) (λx f u=>?_)
  ⟨l[m].cy,rfl,Gu.one _,λj _ h=>by omega⟩ (by grind)
 ·obtain ⟨v,rfl,d,hb⟩:=u;have M:m+1+i<l.length:=by grind
  dsimp only;rw[if_pos (cS hi),bY hi,aw,bq];refine ⟨λh=>?_,λh=>?_⟩
  ·simp only[bz] at h;rw[aY];refine fin i v (yCx hi) hb (λj g N=>?_) d;rw[yCn] at h ⊢;have:=hs.le (show m+1+i<=m+1+j by omega) (by grind);omega
  ·simp only[bz] at h;rw[show ∀b,BB 5000 ({ bI:=v.bI,Mem:=v.Mem,bM:=v.bM,bR:=v.bR }:aF) b=some (uN v b) from λb=>rfl,aw,bV (show i<1000000 by omega)];refine q _ ⟨uN v (l.drop (m+1))[i].cy,rfl,?_,λj g O=>?_⟩
   ·rw[Hw hi,yBX,<-JC];exact d.add _
   grind
 ·obtain ⟨v,rfl,d,hb⟩:=u;dsimp only;rw[if_neg (by simp),aY];exact fin _ v (cP _) (λj g h=>hb j g h) (λj g h=>by omega) d
structure Kept (l r:List bS):Prop where
 ok:dN r
 len:r.length<=l.length
 first:∀(h:0<l.length)(h':0<r.length),r[0].At=l[0].At
 sub:∀s∈r,s∈l
 val:∀t v,yL l t v->yL r t v
theorem eO{l:List bS}{i:Nat}(hi:i<l.length){s:bS}:s∈l.take (i+1)↔s∈l.take i\/s=l[i]:=by rw[Hw hi,kL,zV]
def yL.take{l:List bS}{i:Nat}(hi:i<l.length)(hs:dN l){t:Int}{v:aF}(h:yL (l.take (i+1)) t v):(l[i].At<=t/\v=l[i].cy)\/(t<l[i].At/\yL (l.take i) t v):=by
 obtain ⟨s,x,z,u,rfl⟩:=h;rw[Hw hi] at x u;by_cases q:l[i].At<=t
 ·left;refine ⟨q,?_⟩;have A:=u l[i] (yBC _ (zV.2 rfl)) q;rcases kL.1 x with h | h
  ·obtain ⟨j,E,rfl⟩:=OA.1 h;rw[BZ] at E;rw[Rk] at A ⊢;have:=hs.lt (show j<i by omega) hi;omega
  simp_all
 ·right;refine ⟨by omega,s,?_,z,λF G=>u F (yBI _ G),rfl⟩
  grind
def YM{l:List bS}(hs:dN l){s:bS}(h:∀x∈l,x.At<s.At)(d:(0<=s.At/\s.At<=281474976710656)/\aN s.cy):dN (l++[s]):=by
 have:=hs.ne;refine ⟨by simp,λi hi=>?_,λx a=>?_⟩
 ·rw[zJ,xAe] at hi;rw[yCy (show i<l.length by omega)];by_cases e:i+1<l.length
  ·rw[yCy e];exact hs.inc i e
  simp_all
 ·rcases kL.1 a with a | a
  ·exact hs.each x a
  simp_all
def Lo{l:List bS}(hl:l.length<=1000)(hs:dN l):bQ (oB 5000 l) (Kept l):=by
 have m:=hs.ne;unfold oB;rw[jF hl hs,aw,if_neg (by simp)];rw[show (0:Int)=((0:Nat):Int) from rfl,bY m,aw];rw[show slice? l 1 (l.length:Int)=some (l.drop 1) from jI m,aw];have N:(l.drop 1).length=l.length-1:=yCb ..;refine iL (l.drop 1).length (λi x=>x.1=(i:Int)/\Kept (l.take (i+1)) x.2/\∃(h:0<x.2.length)(hi:i<l.length),x.2[x.2.length-1].cy=l[i].cy) (λi x f hi r O=>?_) (λx f r=>?_) ?_ (by omega)
 ·obtain ⟨y,a⟩:=x;obtain ⟨rfl,hk,g,z,d⟩:=r;dsimp only at hk g d ⊢;have k:i+1<l.length:=by omega
  have u:=hk.len;rw[BZ] at u;have F:(l.drop 1)[i]=l[i+1]:=by simp_all
  simp only[eE];rw[if_pos (cS hi),bY hi,aw,F,wr (x:=(a.length:Int)-1) (by omega) (by omega),show (a.length:Int)-1=((a.length-1:Nat):Int) by omega,bY (show a.length-1<a.length by omega),aw,bV (show i<1000000 by omega),d];have n:∀x∈a,x.At<l[i+1].At:=λx r=>by have:=hk.sub x r;obtain ⟨j,A,rfl⟩:=OA.1 this;rw[BZ] at A;rw[Rk];exact hs.lt (by omega) k
  rw[bq];refine ⟨λh=>?_,λh=>?_⟩
  ·rw[ze (by grind),aw];have K:Kept (l.take (i+1+1)) (a++[l[i+1]]):=by
    refine ⟨YM hk.ok n (hs.each _ (bA _)),by grind,λh w=>?_,λs SX=>?_,λt v p=>?_⟩
    ·have:=hk.first (by grind) g
     simp_all
    ·rcases kL.1 SX with q | q
     ·exact (eO k).2 (.inl (hk.sub s q))
     grind [eO]
    ·rcases p.take k hs with ⟨q,rfl⟩ | ⟨q,p⟩
     ·exact ⟨l[i+1],yBC _ (zV.2 rfl),q,λE w _=>by grind,rfl⟩
     ·obtain ⟨s,G,L,S,M⟩:=hk.val t v p;exact ⟨s,yBI _ G,L,λE w T=>by grind,M⟩
   simp_all
  ·have e:l[i+1].cy=l[i].cy:=by
    simp only[hZ,nI] at h;simp only[bS.beq,bG,lA,gZ] at h
    simp_all
   have K:Kept (l.take (i+1+1)) a:=by
    refine ⟨hk.ok,by grind,λh w=>?_,λs SX=>(eO k).2 (.inl (hk.sub s SX)),λt v p=>?_⟩
    ·have:=hk.first (by grind) g
     simp_all
    ·rcases p.take k hs with ⟨q,rfl⟩ | ⟨q,p⟩
     ·refine ⟨a[a.length-1],bA _,by grind,λE w _=>?_,by simp_all⟩;obtain ⟨j,A,rfl⟩:=iM w;exact hk.ok.le (by omega) (by omega)
     ·exact hk.val t v p
   simp_all
 ·obtain ⟨y,a⟩:=x;obtain ⟨rfl,hk,g,z,d⟩:=r;dsimp only at hk ⊢;rw[if_neg (by simp),aY]
  grind
 ·have e:l.take 1=[l[0]]:=by grind [List.take_succ_eq_append_getElem]
  refine ⟨rfl,?_,by simp,m,rfl⟩;rw[PL,e];refine ⟨⟨by simp,λi h=>by simp at h,λs h=>by simp at h;subst h;exact hs.each _ (bA _)⟩,by simp,λ_ _=>rfl,λs h=>h,λt v h=>h⟩
def dN.pw{l:List bS}(h:dN l):l.Pairwise λa b=>a.At<b.At:=yBg.2 λi j hi u s=>h.lt s u
def stOk_pw{l:List bS}(d:0<l.length)(h:l.Pairwise λa b=>a.At<b.At)(e:∀s∈l,(0<=s.At/\s.At<=281474976710656)/\aN s.cy):dN l:=
 ⟨d,λi hi=>yBg.1 h i (i+1) (by omega) hi (by omega),e⟩
def yL.ex{l:List bS}(hs:dN l){t:Int}(x:(l[0]'hs.ne).At<=t):∃v,yL l t v:=by
 have:∀n,0<n->n<=l.length->∃v,yL (l.take n) t v:=by
  intro n;induction n with
  |zero=>omega
  |succ n ih=>
   intro _ K;rcases Nat.eq_zero_or_pos n with rfl | z
   ·refine ⟨l[0].cy,l[0],?_,x,λu i _=>?_,rfl⟩
    ·grind [eO]
    ·rcases (eO (show 0<l.length by omega)).1 i with i | e
     ·grind
     simp_all
   ·obtain ⟨v,s,A,E,M,F⟩:=ih z (by omega);by_cases q:l[n].At<=t
    ·refine ⟨l[n].cy,l[n],(eO (by omega)).2 (.inr rfl),q,λu i _=>?_,rfl⟩;rcases (eO (show n<l.length by omega)).1 i with i | e
     ·obtain ⟨j,G,rfl⟩:=OA.1 i;rw[BZ] at G;rw[Rk];exact hs.le (by omega) (by omega)
     simp_all
    ·refine ⟨v,s,(eO (by omega)).2 (.inl A),E,λu i O=>?_,F⟩
     grind [eO]
 have:=this l.length hs.ne (cP _)
 simp_all
def insS_ok{l:List bS}(hl:l.length<=2000)(x:bS){k:Nat}(hk:k<=l.length):zaW 5000 l [x] (k:Int)=some (l.take k++[x]++l.drop k):=by
 unfold zaW zaE;rw[jI hk,aw,if_neg (by simp)];by_cases e:k=l.length
 ·subst e;rw[if_pos (by simp),ze (by grind),aw];simp[orE]
 ·rw[if_neg (by grind)];unfold orE Na
  grind
structure CutOk (l:List bS) (t:Int) (r:List bS):Prop where
 ok:dN r
 len:r.length<=l.length+1
 first:∀(h:0<l.length)(h':0<r.length),r[0].At=l[0].At
 val:∀u v,yL l u v->yL r u v
 cN:∃s∈r,s.At=t
 VQ:∀s∈l,s∈r
def k_{l:List bS}(hl:l.length<=1000)(hs:dN l){t:Int}(A:(l[0]'hs.ne).At<=t)(T:t<=281474976710656):bQ (qk 5000 l t) (CutOk l t):=by
 unfold qk;refine (zcN hl hs t).bind λr E=>?_;obtain ⟨k,hk,rfl⟩:=E;have U:=hk.pos hs A;have i:=hk.le;obtain ⟨m,rfl⟩:∃m,k=m+1:=⟨k-1,by omega⟩;have d:m<l.length:=by omega
 unfold za4;rw[show ((m+1:Nat):Int)-1=(m:Int) by omega,Eh (by omega),aw,bY d,aw,bq];refine ⟨λh=>?_,λh=>?_⟩
 ·simp only[lA] at h;exact aY.2 ⟨hs,by omega,λ_ _=>rfl,λu v h=>h,⟨_,bA d,h⟩,λs h=>h⟩
 ·simp only[lA] at h;have F:=hk.lo m d (by omega);have W:=hs.each _ (bA d);rw[aw,bV (show m<1000000 by omega),insS_ok (by omega) _ i,aw,aY];generalize σ:({ At:=t,cy:=l[m].cy }:bS)=x;have G:x.At=t:=by grind
  have K:x.cy=l[m].cy:=by grind
  have Z:∀s∈l.take (m+1),s.At<t:=λs SX=>by obtain ⟨j,e,rfl⟩:=OA.1 SX;rw[BZ] at e;rw[Rk];have:=hs.le (show j<=m by omega) d;omega
  have hB:∀s∈l.drop (m+1),t<s.At:=λs SX=>by obtain ⟨j,e,rfl⟩:=OA.1 SX;rw[yCb] at e;rw[yCn];exact hk.hi _ (by omega) (by omega)
  have n:l=l.take (m+1)++l.drop (m+1):=(JN ..).symm;have f:=hs.pw;rw[n] at f;obtain ⟨p1,L,p3⟩:=IZ.1 f;have mem:∀s,s∈l.take (m+1)++[x]++l.drop (m+1)↔s∈l\/s=x:=λs=>by
   constructor
   ·grind
   grind
  refine ⟨stOk_pw (by grind) (IZ.2 ⟨IZ.2 ⟨p1,by simp,λa M b hb=>?_⟩,L,λa M b hb=>?_⟩) λs h=>?_,?_,λh p=>?_,λu v N=>?_,⟨x,(mem x).2 (.inr rfl),G⟩,λs h=>(mem s).2 (.inl h)⟩
  ·grind
  ·grind
  ·rcases (mem s).1 h with h | rfl
   ·exact hs.each s h
   grind
  ·grind
  ·grind
  ·obtain ⟨s,g,w,O,rfl⟩:=N;by_cases q:t<=u
   ·have S:=O l[m] (bA d) (by omega);by_cases q2:s.At<t
    ·have:s=l[m]:=by
      obtain ⟨j,e,rfl⟩:=iM g;have:j<=m:=by
       rcases rU m j with h | h
       ·have:=hk.hi j e (by omega);omega
       omega
      have:=hs.le this d;exact hs.inj g (bA d) (by omega)
     subst this;exact ⟨x,(mem x).2 (.inr rfl),by omega,λy p z=>by grind,K⟩
    ·exact ⟨s,(mem s).2 (.inl g),w,λy p z=>by grind,rfl⟩
   ·exact ⟨s,(mem s).2 (.inl g),w,λy p z=>by grind,rfl⟩
theorem XJ:kG=qk:=rfl
def ur(out:List bS)(need:aF)(a hi:Nat):List bS:=out.mapIdx λj s=>if a<=j/\j<hi then { At:=s.At,cy:=fD s.cy need } else s
theorem RK{out:List bS}{need:aF}{a hi:Nat}:(ur out need a hi).length=out.length:=by simp[ur]
theorem jW{out:List bS}{need:aF}{a hi j:Nat}(h:j<(ur out need a hi).length):(ur out need a hi)[j]=if a<=j/\j<hi then { At:=(out[j]'(by grind [RK])).At,cy:=fD (out[j]'(by grind [RK])).cy need } else out[j]'(by grind [RK]):=by grind [ur]
theorem vN{out:List bS}{need:aF}{a hi j:Nat}(h:j<(ur out need a hi).length):(ur out need a hi)[j].At=(out[j]'(by grind [RK])).At:=by grind [jW]
def Xf(out:List bS)(need:aF)(a:Nat):ur out need a a=out:=yCc RK λj d e=>by rw[jW,if_neg (by omega)]
theorem aaa{out:List bS}{need:aF}{a i:Nat}(h:a+i<out.length):(ur out need a (a+i)).set (a+i) { At:=out[a+i].At,cy:=fD out[a+i].cy need }=ur out need a (a+(i+1)):=yCc (by simp[RK]) λj d f=>by
 rw[List.getElem_set];split
 ·rename_i e;subst e;rw[jW,if_pos ⟨by omega,by omega⟩]
 ·rw[jW,jW]
  grind
def xK(a b:aF):Prop:=∀c,cmp c a<=cmp c b
def subR_ok{a b:aF}(d:aN a)(hb:aN b)(h:xK b a):aN (fD a b):=v_.2 λc=>by have:=v_.1 d c;have:=v_.1 hb c;have:=h c;rw[Co];omega
structure OM (l:List bS) (a b:Int) (need:aF) (r:List bS):Prop where
 ok:dN r
 len:r.length<=l.length+2
 first:∀(h:0<l.length)(h':0<r.length),r[0].At=l[0].At
 val:∀t v,yL l t v->yL r t (if a<=t/\t<b then fD v need else v)
def xO{l:List bS}(hl:l.length<=900)(hs:dN l){a b:Int}{need:aF}(L:aN need)(h0:(l[0]'hs.ne).At<=a)(ab:a<b)(hb:b<=281474976710656)
  (u:∀t v,a<=t->t<b->yL l t v->xK need v):bQ (mH 5000 l a b need) λr=>r.2=0/\OM l a b need r.1:=by
 unfold mH zea;have w:=hs.ne;obtain ⟨rn,en,M⟩:=Up need;have:=M.2 L;subst this;simp only[eE];rw[jF (by omega) hs,aw,if_neg (by simp),en,aw,if_neg (by simp)];rw[show (0:Int)=((0:Nat):Int) from rfl,bY w,aw,if_neg (by simp_all),XJ];rw[ki];refine (k_ (by omega) hs h0 (by omega)).bind λo1 c1=>?_;have W:=c1.ok.ne;have f1:=c1.first w W;have l1:=c1.len;refine (k_ (by omega) c1.ok (t:=b) (by omega) hb).bind λout g=>?_;have n2:=g.ok.ne;have f2:=g.first W n2;have l2:=g.len;obtain ⟨sa,N,ad⟩:=c1.cN;obtain ⟨d,m,af⟩:=iM (g.VQ sa N);obtain ⟨sb,O,ak⟩:=g.cN;obtain ⟨e,he,eb⟩:=iM O;have aa:out[d].At=a:=by simp_all
 have bb:out[e].At=b:=by simp_all
 have val:∀t v,yL l t v->yL out t v:=λt v h=>g.val t v (c1.val t v h);have S:∀j (h:j<out.length),a<=out[j].At->out[j].At<b->aN (fD out[j].cy need):=λj h y A=>by obtain ⟨v,E⟩:=yL.ex hs (t:=out[j].At) (by omega);have:=(val _ _ E).By g.ok ⟨out[j],bA h,MG _,λs' _ h=>h,rfl⟩;subst this;exact subR_ok (E.ok hs) L (u _ _ y A E)
 refine (zcN (by omega) g.ok a).bind λr p=>?_;obtain ⟨k,hk,rfl⟩:=p;have hp:=hk.pos g.ok (by omega);have an:=hk.le;have hm:k=d+1:=by
  rcases Wh k (d+1) with h | h | h
  ·have:=hk.hi d m (by omega);omega
  ·exact h
  ·have:=hk.lo (k-1) (by omega) (by omega);have:=g.ok.lt (show d<k-1 by omega) (by omega);omega
 subst hm;have av:d<e:=by
  rcases Wh d e with h | h | h
  ·exact h
  ·simp_all
  ·have:=g.ok.lt h m;omega
 rw[show ((d+1:Nat):Int)-1=(d:Int) by omega];have mid:∀j (h:j<out.length),d<=j->j<e->a<=out[j].At/\out[j].At<b:=λj h y A=>by have:=g.ok.le y h;have:=g.ok.lt A he;omega
 refine iL (e-d) (λi x=>x=(((d+i:Nat):Int),ur out need d (d+i))) (λi x f hi T p=>?_) (λx f T=>?_) (by rw[Nat.add_zero,Xf]) (by omega)
 ·subst T;have n:d+i<out.length:=by omega
  obtain ⟨y,A⟩:=mid (d+i) n (by omega) (by omega);have F:(ur out need d (d+i))[d+i]'(by grind [RK])=out[d+i]:=by rw[jW,if_neg (by omega)]
  dsimp only;rw[bY (show d+i<(ur out need d (d+i)).length by grind),aw,F,if_pos (by simp_all),aw];refine (sub_ok (g.ok.each _ (bA n)).2 L).bind λr G=>?_;have z:=G.1.2 (S _ n y A);rw[if_neg (by simp[z]),yA,G.2 z,bV (show d+i<1000000 by omega)]
  grind [aaa]
 ·subst T;rw[show d+(e-d)=e by omega];dsimp only;rw[bY (show e<(ur out need d e).length by grind [RK]),yA,vN,if_neg (by simp_all)];have σ:dN (ur out need d e):=by
   refine ⟨by grind [RK],λi h=>?_,λs h=>?_⟩
   ·rw[vN,vN];exact g.ok.inc i (by grind [RK])
   ·obtain ⟨j,n,rfl⟩:=iM h;have K:=n;rw[RK] at K;have ej:=g.ok.each _ (bA K)
    grind [jW]
  refine (Lo (by grind [RK]) σ).bind λr p=>?_;rw[aY,aY];have rl:=p.len;rw[RK] at rl;refine ⟨rfl,p.ok,by grind,λh Z=>?_,λt v E=>p.val _ _ ?_⟩
  ·have:=p.first σ.ne Z
   grind [vN]
  ·obtain ⟨s,h1,h2,h3,rfl⟩:=val t v E;obtain ⟨j,n,rfl⟩:=iM h1;have U:j<(ur out need d e).length:=by grind [RK]
   refine ⟨(ur out need d e)[j],bA U,by grind [vN],λs' Z ht=>?_,?_⟩
   ·grind [List.getElem_of_mem,vN]
   ·rw[jW];have ka:a<=t↔d<=j:=by
     constructor
     ·intro h;have:=h3 out[d] (bA m) (by omega);rcases rU j d with q | q
      ·have:=g.ok.lt q m;omega
      omega
     ·intro h;have:=g.ok.le h n;omega
    have kb:t<b↔j<e:=by
     constructor
     ·intro h;rcases rU j e with q | q
      ·exact q
      ·have:=g.ok.le q n;omega
     grind
    grind
end Go.Plain
end
