/- Lemmas. -/
import Derived.Test.YtcndmfkgdaipaaaGreatTyPure
import Derived.KernelRfl
import Derived.Laws.BitsLemmas
set_option linter.all false
open Go.IntKind (i64 u64)
section
namespace Go.Plain
open Go.Abs
instance glT:Gl:={ ok:=λ_ _=>True,mono:=λ_ _=>trivial }
theorem wr{x:Int}(a:-9223372036854775808<=x)(d:x<9223372036854775808):i64.wrap x=x:=by rw[IntKind.wrap_i64];omega
theorem bT{i:Nat}(h:i<1000000):i64.wrap ((i:Int)+1)=((i+1:Nat):Int):=by grind [wr]
theorem wp1{i:Nat}(h:i+1<1000000):i64.wrap (((i+1:Nat):Int)-1)=(i:Int):=by grind [wr]
theorem bX{α:Type}{l:List α}{i:Nat}(h:i<l.length):aC l (i:Int)=some l[i]:=by
 unfold aC
 simp_all
theorem EL{α:Type}{l:List α}{x:Int}(d:0<=x)(h:x<l.length):∃a:x.toNat<l.length,aC l x=some (l[x.toNat]'a):=by
 have a:x.toNat<l.length:=by omega
 refine ⟨a,?_⟩;unfold aC
 simp_all
theorem cK{i n:Nat}(h:i<n):decide ((i:Int)<(n:Int))=true:=by simp_all
theorem ed{n:Nat}:decide ((n:Int)<(n:Int))=false:=by simp
theorem Cj{α:Type}{l m:List α}(h:l.length+m.length<=1000000):bP l m=some (l++m):=by unfold bP;simp_all
theorem yI{α:Type}{m:List α}(h:m.length<=1000000):bP [] m=some m:=by grind [Cj]
theorem dV{X R:Type}(r:X->Option R)(b:(X->Option R)->Option R):jn r b=b r:=rfl
def bO{β:Type}(o:Option β)(Q:β->Prop):Prop:=∃r,o=some r/\Q r
abbrev fD(o:Option Bool)(P:Prop):Prop:=bO o λb=>b=true↔P
section
variable{α β γ σ:Type}{o:Option α}{P Q:α->Prop}
theorem bO.mono(h:bO o P)(i:∀r,P r->Q r):bO o Q:=by obtain ⟨r,j,s⟩:=h;exact ⟨r,j,i r s⟩
theorem bO.bind{f:α->Option β}{R:β->Prop}(h:bO o P)(i:∀r,P r->bO (f r) R):bO (o.bind f) R:=by obtain ⟨r,rfl,j⟩:=h;simp_all
theorem aY{r:α}:bO (some r) Q↔Q r:=by simp[bO]
theorem jO{f:α->Option β}{R:β->Prop}:bO (o.bind f) R↔bO o λr=>bO (f r) R:=by cases o <;> simp[bO]
theorem bx{c:Prop}[Decidable c]{a b:Option α}:bO (if c then a else b) Q↔(c->bO a Q)/\(¬c->bO b Q):=by grind
theorem bO.eq{r:α}(h:bO o λx=>x=r):o=some r:=by obtain ⟨_,h,rfl⟩:=h;exact h
end
section
variable{X R α:Type}{b:(X->Option R)->X->Option R}{Q:R->Prop}
theorem jm(n:Nat)(Inv:Nat->X->Prop)(hs:∀i x f,i<n->Inv i x->(∀d,Inv (i+1) d->bO (f d) Q)->bO (b f x) Q)
  (g:∀x f,Inv n x->bO (b f x) Q) {x0:X} (j:Inv 0 x0) {N:Nat} (l:n<N):bO (bC b N x0) Q:=by
 have:∀k i x,i<=n->n<i+k->Inv i x->bO (bC b k x) Q:=by
  intro k;induction k with
  |zero=>omega
  |succ k ih=>
   intro i x h m hi;rcases Xd h with a | rfl
   ·exact hs i x _ a hi λd e=>ih (i+1) d a (by omega) e
   ·exact g x _ hi
 grind
end
section
variable{R α:Type}{b:(Int->Option R)->Int->Option R}{Q:R->Prop}
theorem vo(l:List α)(A:Nat->α->Prop)
  (hs:∀i (f:Int->Option R) (h:i<l.length),(∀j (a:j<l.length),j<i->A j l[j])->(A i l[i]->bO (f ((i+1:Nat):Int)) Q)->bO (b f (i:Int)) Q)
  (k:∀f,(∀j (a:j<l.length),A j l[j])->bO (b f (l.length:Int)) Q) {N:Nat} (d:l.length<N):bO (bC b N 0) Q:=
 jm l.length (fun i x=>x=(i:Int)/\∀j (a:j<l.length),j<i->A j l[j])
  (fun i x f hi ⟨e,g⟩ m=>by
   grind)
  (fun x f ⟨e,g⟩=>by simp_all) ⟨rfl,fun j a h=>absurd h (by omega)⟩ d
end
theorem DZ{α:Type}{l:List α}{A:α->Prop}(h:∀j (d:j<l.length),A l[j]):∀a∈l,A a:=λa e=>by grind [List.getElem_of_mem]
theorem ON{α:Type}{b:(Int->Option Bool)->Int->Option Bool}(l:List α)(A:α->Prop)(P:Prop)(j:P->∀a∈l,A a)
  (hs:∀(i:Nat)(f:Int->Option Bool)(h:i<l.length)(Q:Bool->Prop),(A l[i]->bO (f ((i+1:Nat):Int)) Q)->(¬A l[i]->Q false)->bO (b f (i:Int)) Q)
  (d:∀f,(∀a∈l,A a)->fD (b f (l.length:Int)) P) {N:Nat} (e:l.length<N):fD (bC b N 0) P:=
 vo l (λ_ a => A a) (λi f h _ g => hs i f h _ g λk => by
   grind)
  (λf h=>d f (DZ h)) e
structure lz (s:a_):Prop where
 nodes:s.aj.length<=40
 parts:s.aH.length<=20
 ij:s.am.length<=20
 part:∀p∈s.aH,p.length<=40
 queue:∀q∈s.am,q.aT.length<=40
theorem few07(s:a_):bO (zfc 5000 s) λr=>r=true->lz s:=by
 simp only[zfc,bx,aY];refine ⟨by simp,λh=>?_⟩;simp only[gC,bB,not_or,Int.not_lt] at h;obtain ⟨⟨g,j⟩,k⟩:=h;refine vo s.aH (λ_ q=>q.length<=40) (λi f h _ a=>?_) (λf d=>?_) (by omega)
 ·simp only[cK h,if_true,bX h,aw,bT (show i<1000000 by omega),bx,aY,bB]
  grind
 ·simp only[ed,bU,cu];refine vo s.am (λ_ q=>q.aT.length<=40) (λi f h _ a=>?_) (λf e=>?_) (by omega)
  ·simp only[cK h,if_true,bX h,aw,bT (show i<1000000 by omega),bx,aY,bB]
   grind
  ·simp only[ed,bU,cu,aY];exact λ_=>⟨by omega,by omega,by omega,DZ d,DZ e⟩
theorem few17(l:List aJ):bO (zfa 5000 l) λr=>r=true->l.length<=30/\∀j∈l,j.aF.length<=10:=by
 simp only[zfa,bx,aY];refine ⟨by simp,λh=>?_⟩;simp only[bB] at h;refine vo l (λ_ q=>q.aF.length<=10) (λi f h _ d=>?_) (λf a=>?_) (by omega)
 ·simp only[cK h,if_true,bX h,aw,bT (show i<1000000 by omega),bx,aY,bB]
  grind
 ·simp only[ed,bU,cu,aY];exact λ_=>⟨by omega,DZ a⟩
structure lX (s:a_) (st:bZ):Prop where
 spec:lz s
 bn:st.ai.length<=300
 after:∀j∈st.ai,j.aF.length<=10
 b_:st.ah.length<=300
 cA:st.aA.length<=20
 use:st.gz.length<=20
 stamps:st.az.am.length<=20
 shares:∀a∈st.ah,a.ae.length<=40
theorem lX.sh{s:a_}{st:bZ}(h:lX s st):∀a∈st.ah,a.ae.length<=300:=λa i=>kL (h.shares a i) (by decide)
theorem few23(s:a_)(st:bZ):bO (zci 5000 s st) λr=>r=true->lX s st:=by
 simp only[zci,dV];refine (few07 s).bind λr d=>?_;simp only[if_true,aY,bx];refine ⟨by simp,λh=>?_⟩;refine (few17 st.ai).bind λk a=>?_;simp only[gV,oT] at h;have g:=d h;simp only[bx,aY];refine ⟨by simp,λh=>?_⟩;simp only[gC,bB,not_or,Int.not_lt,gV,oT] at h;obtain ⟨⟨⟨⟨h,l⟩,m⟩,n⟩,p⟩:=h;have e:=a h;refine vo st.ah (λ_ q=>q.ae.length<=40) (λi f h _ d=>?_) (λf j=>?_) (by omega)
 ·simp only[cK h,if_true,bX h,aw,bT (show i<1000000 by omega),bx,aY,bB]
  grind
 ·simp only[ed,bU,cu,aY];exact λ_=>⟨g,kL e.1 (by decide),e.2,by omega,by omega,by omega,by omega,DZ j⟩
def OV(a hi x:Int):Bool:=decide (a<=x)&&decide (x<=hi)
structure aN (r:aE):Prop where
 GK:0<=r.bF/\r.bF<=1048576
 mem:0<=r.Mem/\r.Mem<=1048576
 Jz:0<=r.bJ/\r.bJ<=1048576
 Lw:0<=r.bL/\r.bL<=1048576
theorem wM(r:aE):fD (Zb 5000 r) (aN r):=by simp only[Zb,zcc,aY,aw,bx,bK,bB,bU,Gr,fD];refine ⟨λa=>⟨λd=>⟨λe=>⟨λf=>⟨a,d,e,f⟩,λh=>h.Lw⟩,λe h=>e h.Jz⟩,λd h=>d h.mem⟩,λa h=>a h.GK⟩
theorem at4x0{a b c d:Int}:aC [a,b,c,d] 0=some a:=rfl
theorem at4x1{a b c d:Int}:aC [a,b,c,d] 1=some b:=rfl
theorem at4x2{a b c d:Int}:aC [a,b,c,d] 2=some c:=rfl
theorem at4x3{a b c d:Int}:aC [a,b,c,d] 3=some d:=rfl
theorem lpN(l:List Int)(d hi n:Int)(e:(l.length:Int)=n){E:Option Bool}{Q:Bool->Prop}(k:¬(∀a∈l,d<=a/\a<=hi)->Q false)(g:(∀a∈l,d<=a/\a<=hi)->bO E Q)(j:l.length<5000) :
  bO (bC (λ(f:Int->Option Bool) (x:Int)=>if (decide (x<n))=true then (aC l x).bind λy=>if ((decide (y<d)) || (decide (y > hi)))=true then some false else f (i64.wrap (x+1)) else E) 5000 0) Q:=by
 subst e;refine vo l (λ_ a=>d<=a/\a<=hi) (λi f h _ m=>?_) (λf h=>?_) j
 ·simp only[cK h,if_true,bX h,aw,bT (show i<1000000 by omega),bx,aY,gC,bB]
  grind
 ·simp only[ed,bU,cu];exact g (DZ h)
theorem zP{a b c d e hi:Int}:(∀x∈[a,b,c,d],e<=x/\x<=hi)↔(e<=a/\a<=hi)/\(e<=b/\b<=hi)/\(e<=c/\c<=hi)/\(e<=d/\d<=hi):=by simp
theorem IA{a b c d hi:Int}:(∀x∈[a,b,c],d<=x/\x<=hi)↔(d<=a/\a<=hi)/\(d<=b/\b<=hi)/\(d<=c/\c<=hi):=by simp
theorem Uo(r:aE):fD (Og 5000 r) (aN r):=by
 simp only[Og,gq,aw];refine lpN [r.bF,r.Mem,r.bJ,r.bL] 0 1048576 4 rfl (λh=>?_) (λh=>?_) (by simp)
 ·simp only[bU,Gr];exact λv=>h (zP.2 ⟨v.GK,v.mem,v.Jz,v.Lw⟩)
 ·rw[aY];obtain ⟨a,d,e,f⟩:=zP.1 h;exact ⟨λ_=>⟨a,d,e,f⟩,λ_=>rfl⟩
def bV:aE:={ bF:=0,Mem:=0,bJ:=0,bL:=0 }
theorem gK{a b:aE}:aE.beq a b=true↔a=b:=by obtain ⟨d,e,f,g⟩:=a;obtain ⟨h,i,j,k⟩:=b;simp[aE.beq]
end Go.Plain
end
section
namespace Go.Plain
open Go.Abs
def Lv(l:List Int):Nat->Int
 |0=>-1
 |i+1=>l[i]?.getD 0
theorem qL{l:List Int}{i:Nat}(h:i<l.length):Lv l (i+1)=l[i]:=by simp[Lv,h]
def nz(l:List Int)(n:Int):Prop:=∀i (h:i<l.length),Lv l i<l[i]/\l[i]<n
theorem nz.nn{l:List Int}{n:Int}(h:∀i (hi:i<l.length),Lv l i<l[i]):∀i (hi:i<l.length),0<=l[i]:=by
 intro i;induction i with
 |zero=>grind [Lv]
 |succ i ih=>grind [qL]
theorem nz.mem{l:List Int}{n:Int}(h:nz l n):∀x∈l,0<=x/\x<n:=λx j=>by obtain ⟨i,hi,rfl⟩:=jV j;exact ⟨nz.nn (n:=n) (λi hi=>(h i hi).1) i hi,(h i hi).2⟩
theorem ascending(l:List Int)(n:Int)(hl:l.length<99):fD (ze0 5000 l n) (nz l n):=by
 simp only[ze0];refine jm l.length (λi x=>x=(Lv l i,(i:Int))/\∀j (d:j<l.length),j<i->Lv l j<l[j]/\l[j]<n) (λi x f hi a g=>?_) (λx f a=>?_) ⟨rfl,λj d h=>by omega⟩ (by omega)
 ·obtain ⟨rfl,e⟩:=a;simp only[cK hi,if_true,bX hi,aw,bT (show i<1000000 by omega),bx,aY,gC,bB];refine ⟨λh=>?_,λh=>g _ ⟨by rw[qL hi],λj d k=>?_⟩⟩
  ·simp only[bU,Gr];intro m;have:=m i hi;omega
  grind
 ·obtain ⟨rfl,e⟩:=a;simp only[ed,bU,cu,aY,Rs];exact λi hi=>e i hi hi
theorem EI(l:List Int)(n:Int)(hl:l.length<99):fD (zcD 5000 l n) (nz l n):=by
 simp only[zcD,dV];refine vo l (λi a=>Lv l i<a/\a<n) (λi f h r e=>?_) (λf h=>?_) (by omega)
 ·have g:decide ((i:Int) > 0)=decide (0<i):=by simp
  simp only[cK h,if_true,bX h,aw,bT (show i<1000000 by omega),bx,aY,bB,g,bU,cu];have bad:¬(Lv l i<l[i]/\l[i]<n)->(False↔nz l n):=λj=>by simp only[Gr];exact λd=>j (d i h)
  refine ⟨λk=>?_,λk=>⟨λp=>bad (by omega),λp=>⟨λq=>?_,λq=>?_⟩⟩⟩
  ·simp only[Gr];intro d;have:=(d.mem _ (bH h)).1;omega
  ·obtain ⟨m,rfl⟩:∃m,i=m+1:=⟨i-1,by omega⟩;rw[wp1 (show m+1<1000000 by omega),bX (show m<l.length by omega)];rw[qL (by omega)] at bad e;simp only[aw,bx,bB,aY,bU]
   simp_all
  grind [Lv]
 ·simp only[ed,bU,cu,aY,Rs];exact h
structure oH (s:a_):Prop where
 lo:1<=s.aj.length
 hi:s.aj.length<=16
 ok:∀r∈s.aj,aN r
theorem Rx(s:a_):fD (fK 5000 s) (oH s):=by
 simp only[fK,bx,aY];refine ⟨λh=>?_,λh=>?_⟩
 ·simp only[gC,bB] at h;simp only[bU,Gr]
  grind [oH.lo,oH.hi]
 ·simp only[gC,bB,not_or] at h;refine ON s.aj aN _ (λk=>k.ok) (λi f a Q e g=>?_) (λf d=>?_) (by omega)
  ·simp only[cK a,if_true,bX a,aw,bT (show i<1000000 by omega)];refine (Uo _).bind λr j=>?_;simp only[bx,aY,gV,oT]
   grind
  ·simp only[ed,bU,cu,aY,Rs];exact ⟨by omega,by omega,d⟩
theorem VI(s:a_)(hs:lz s):fD (zc0 5000 s) (oH s):=by
 have:=hs.nodes;simp only[zc0];refine ON s.aj aN _ (λk=>k.ok) (λi f a Q e g=>?_) (λf d=>?_) (by omega)
 ·simp only[cK a,if_true,bX a,aw,bT (show i<1000000 by omega)];refine (wM _).bind λr j=>?_;simp only[bx,aY,gV,oT]
  grind
 ·simp only[ed,bU,cu,Bo,aw,aY,bK,bB];exact ⟨λh=>⟨by omega,by omega,d⟩,λh=>by grind [oH.lo,oH.hi]⟩
structure pj (s:a_):Prop where
 lo:1<=s.aH.length
 hi:s.aH.length<=8
 ok:∀p∈s.aH,1<=p.length/\nz p s.aj.length
theorem Rc(s:a_)(hs:lz s):fD (fC 5000 s) (pj s):=by
 simp only[fC,dV,bx,aY];refine ⟨λh=>?_,λh=>?_⟩
 ·simp only[gC,bB] at h;simp only[bU,Gr]
  grind [pj.lo,pj.hi]
 ·simp only[gC,bB,not_or] at h;refine ON s.aH (λp=>1<=p.length/\nz p s.aj.length) _ (λk=>k.ok) (λi f a Q j d=>?_) (λf g=>?_) (by omega)
  ·have:=hs.part _ (bH a);simp only[cK a,if_true,bX a,aw,bT (show i<1000000 by omega),bx,aY,bB];refine ⟨λe=>d (by omega),λe=>?_⟩;refine (ascending _ _ (by omega)).bind λr l=>?_;simp only[bx,aY,gV,oT]
   grind
  ·simp only[ed,bU,cu,aY,Rs];exact ⟨by omega,by omega,g⟩
theorem UM(s:a_)(hs:lz s):fD (zc4 5000 s) (pj s):=by
 have:=hs.parts;simp only[zc4,dV];refine ON s.aH (λp=>1<=p.length/\nz p s.aj.length) _ (λk=>k.ok) (λi f a Q j d=>?_) (λf g=>?_) (by omega)
 ·have:=hs.part _ (bH a);simp only[cK a,if_true,bX a,aw,bT (show i<1000000 by omega),bx,aY,bB];refine ⟨λe=>d (by omega),λe=>?_⟩;refine (EI _ _ (by omega)).bind λr l=>?_;simp only[bx,aY,gV,oT]
  grind
 ·simp only[ed,bU,cu,Bo,aw,aY,bK,bB];exact ⟨λh=>⟨by omega,by omega,g⟩,λh=>by grind [pj.lo,pj.hi]⟩
structure AY (s:a_) (q:zT):Prop where
 part:0<=q.Part/\q.Part<s.aH.length
 AX:nz q.aT s.aT
 bn:1<=q.jM/\q.jM<=256
 run:1<=q.jx/\q.jx<=256
 user:1<=q.eO/\q.eO<=256
 qos:0<=q.f_/\q.f_<=100
structure qt (s:a_):Prop where
 lo:1<=s.am.length
 hi:s.am.length<=8
 ok:∀q∈s.am,AY s q
theorem NM(s:a_)(hs:lz s):fD (ze9 5000 s) (qt s):=by
 simp only[ze9,dV,bx,aY];refine ⟨λh=>?_,λh=>?_⟩
 ·simp only[gC,bB] at h;simp only[bU,Gr]
  grind [qt.lo,qt.hi]
 ·simp only[gC,bB,not_or] at h;refine ON s.am (AY s) _ (λk=>k.ok) (λi f a Q l d=>?_) (λf m=>?_) (by omega)
  ·have:=hs.queue _ (bH a);simp only[cK a,if_true,bX a,aw,bT (show i<1000000 by omega),bU,cu];rw[bx];refine ⟨λe=>?_,λe=>?_⟩
   ·simp only[gC,bB] at e;rw[aY];exact d λk=>by have:=k.part;omega
   ·simp only[gC,bB,not_or] at e;refine (ascending _ _ (by omega)).bind λr n=>?_;rw[bx];refine ⟨λg=>?_,λg=>?_⟩
    ·grind [aY,AY.AX]
    ·simp only[gV,oT] at g;refine lpN [_,_,_] 1 256 3 rfl (λp=>d λk=>p (IA.2 ⟨k.bn,k.run,k.user⟩)) (λq=>?_) (by simp);obtain ⟨t,u,v⟩:=IA.1 q;rw[bx];refine ⟨λj=>?_,λj=>?_⟩
     ·simp only[gC,bB] at j;rw[aY];exact d λk=>by have:=k.qos;omega
     ·simp only[gC,bB,not_or] at j;exact l ⟨by omega,n.1 g,t,u,v,by omega⟩
  ·simp only[ed,bU,cu,aY,Rs];exact ⟨by omega,by omega,m⟩
theorem Re(s:a_)(hs:lz s):fD (zcC 5000 s) (qt s):=by
 have:=hs.ij;simp only[zcC,dV];refine ON s.am (AY s) _ (λk=>k.ok) (λi f d Q j a=>?_) (λf l=>?_) (by omega)
 ·have:=hs.queue _ (bH d);simp only[cK d,if_true,bX d,aw,bT (show i<1000000 by omega),bU,cu];rw[bx];refine ⟨λe=>?_,λe=>?_⟩
  ·simp only[gC,bB] at e;rw[aY];exact a λk=>by have:=k.part;omega
  ·simp only[gC,bB,not_or] at e;refine (EI _ _ (by omega)).bind λr m=>?_;simp only[Bo,aw,bx,aY,gV,oT,bK,bB,yBC,yBn];refine ⟨λg=>a λk=>by grind [AY.AX],λg=>⟨λn=>a λk=>by have:=k.bn;omega,λn=>⟨λp=>a λk=>by have:=k.run;omega,λp=>⟨λq=>a λk=>by have:=k.user;omega,λq=>⟨λt=>a λk=>by have:=k.qos;omega,λt=>?_⟩⟩⟩⟩⟩;exact j ⟨by omega,m.1 g,by omega,by omega,by omega,by omega⟩
 ·simp only[ed,bU,cu,Bo,aw,aY,bK,bB];exact ⟨λh=>⟨by omega,by omega,l⟩,λh=>by have:=h.lo;have:=h.hi;omega⟩
structure Cg (w:Lx):Prop where
 age:0<=w.mG/\w.mG<=1000
 size:0<=w.de/\w.de<=1000
 qos:0<=w.f_/\w.f_<=1000
 share:0<=w.bW/\w.bW<=1000
theorem JM(w:Lx):fD (zeC 5000 w) (Cg w):=by
 simp only[zeC];refine lpN [w.mG,w.de,w.f_,w.bW] 0 1000 4 rfl (λh=>?_) (λh=>?_) (by simp)
 ·simp only[bU,Gr];exact λv=>h (zP.2 ⟨v.age,v.size,v.qos,v.share⟩)
 ·rw[aY];obtain ⟨a,d,e,f⟩:=zP.1 h;exact ⟨λ_=>⟨a,d,e,f⟩,λ_=>rfl⟩
structure bo (s:a_):Prop where
 nodes:oH s
 parts:pj s
 AX:1<=s.aT/\s.aT<=8
 ij:qt s
 weights:Cg s.aq
 decay:1<=s.cj/\s.cj<=16
 mode:s.Mode=1\/s.Mode=2
 bn:1<=s.ai/\s.ai<=256
 ids:1<=s.kX/\s.kX<=1048576
 uj:1<=s.aI/\s.aI<=65536
 Yk:0<=s.br/\s.br<=65536
 keep:1<=s.dm/\s.dm<=16
 OV:1<=s.In/\s.In<=8
 out:1<=s.Out/\s.Out<=16
 cache:0<=s.ce/\s.ce<=16
theorem sm(s:a_)(hs:lz s):fD (QN 5000 s) (bo s):=by
 simp only[QN,Cn];obtain ⟨N,z,m⟩:=Rx s;obtain ⟨O,A,n⟩:=Rc s hs;obtain ⟨S,E,q⟩:=NM s hs;obtain ⟨U,F,r⟩:=JM s.aq;simp only[z,A,E,F,aw];have T:∀(x:ByteArray),x.toList≠[]->(¬bo s)->bO ((some x).bind λa=>some (a.toList == (⟨#[]⟩:ByteArray).toList)) λb=>b=true↔bo s:=λx G W=>by
  rw[aw,aY]
  simp_all
 have step:∀(c:Bool)(x:ByteArray)(o:Option ByteArray),x.toList.isEmpty=false->(c=false->¬bo s)->(c=true->bO (o.bind λa=>some (a.toList == (⟨#[]⟩:ByteArray).toList)) λb=>b=true↔bo s) ->
   bO ((if (!c)=true then some x else o).bind λa=>some (a.toList == (⟨#[]⟩:ByteArray).toList)) λb=>b=true↔bo s:=λc x o G m n=>by
  grind
 have nb:∀{b:Bool}{p:Prop},(b=true↔p)->b=false->¬p:=λh e Y=>by simp_all
 refine step _ _ _ (by kernel_rfl) (λe k=>nb m e k.nodes) λc1=>?_;refine step _ _ _ (by kernel_rfl) (λe k=>nb n e k.parts) λK=>?_;refine step _ _ _ (by kernel_rfl) (λe k=>by grind [bo.AX]) λt=>?_;refine step _ _ _ (by kernel_rfl) (λe k=>nb q e k.ij) λL=>?_;refine step _ _ _ (by kernel_rfl) (λe k=>nb r e k.weights) λM=>?_;refine step _ _ _ (by kernel_rfl) (λe k=>by grind [bo.decay]) λu=>?_;refine step _ _ _ (by kernel_rfl) (λe k=>by grind [bo.mode]) λv=>?_;refine step _ _ _ (by kernel_rfl) (λe k=>by grind [bo.bn]) λw=>?_;refine step _ _ _ (by kernel_rfl) (λe k=>by grind [bo.ids]) λy=>?_;refine step _ _ _ (by kernel_rfl) (λe k=>by grind [bo.uj]) λd=>?_;refine step _ _ _ (by kernel_rfl) (λe k=>by grind [bo.Yk]) λf=>?_;refine step _ _ _ (by kernel_rfl) (λe k=>by grind [bo.keep]) λg=>?_;refine step _ _ _ (by kernel_rfl) (λe k=>by grind [bo.OV]) λi=>?_;refine step _ _ _ (by kernel_rfl) (λe k=>by grind [bo.out]) λj=>?_;refine step _ _ _ (by kernel_rfl) (λe k=>by grind [bo.cache]) λl=>?_;rw[aw,aY];simp only[yCp,Rs];simp only[bK,gC,bB,mV] at t u v w y d f g i j l;exact ⟨m.1 c1,n.1 K,t,q.1 L,r.1 M,u,v,w,y,d,f,g,i,j,l⟩
theorem LM{n:Nat}(hN:15<n){s:a_}{g j m:Bool}(T:zc0 n s=some g)(F:g=true↔oH s)(U:zc4 n s=some j)(G:j=true↔pj s)(W:zcC n s=some m)(K:m=true↔qt s):fD (zcV n s) (bo s):=by
 simp only[zcV,gG,T,U,W,aw,Bo,dV];have d:∀w:Bool,(w=true↔Cg s.aq)->∀(L:List Bool)(M:List ByteArray),L=[g,j,decide (1<=s.aT)&&decide (s.aT<=8),m,w,decide (1<=s.cj)&&decide (s.cj<=16),decide (1<=s.Mode)&&decide (s.Mode<=2),decide (1<=s.ai)&&decide (s.ai<=256),decide (1<=s.kX)&&decide (s.kX<=1048576),decide (1<=s.aI)&&decide (s.aI<=65536),decide (0<=s.br)&&decide (s.br<=65536),decide (1<=s.dm)&&decide (s.dm<=16),decide (1<=s.In)&&decide (s.In<=8),decide (1<=s.Out)&&decide (s.Out<=16),decide (0<=s.ce)&&decide (s.ce<=16)] ->
   (∀x∈M,x.toList≠[])->M.length=15 ->
   bO ((bC (λ(p:Int->Option ByteArray) (e:Int)=>if (decide (e<15))=true then (aC L e).bind λq=>if (!q)=true then (aC M e).bind λr=>some r else p (i64.wrap (e+1)) else some (⟨#[]⟩:ByteArray)) n 0).bind λY=>some (Y.toList == (⟨#[]⟩:ByteArray).toList)) λb=>b=true↔bo s:=by
  intro w N L M Z hM O;have S:L.length=15:=by simp_all
  have t:(15:Int)=(L.length:Int):=by omega
  have all:(∀x∈L,x=true)↔bo s:=by
   rw[Z];simp only[gB,MV,MR,forall_eq_or_imp,forall_eq,bK,bB];constructor
   ·rintro ⟨c1,c2,c3,c4,c5,c6,c7,c8,c9,u,v,y,z,A,E⟩;exact ⟨F.1 c1,G.1 c2,c3,K.1 c4,N.1 c5,c6,by omega,c8,c9,u,v,y,z,A,E⟩
   ·intro k;have:=k.mode;exact ⟨F.2 k.nodes,G.2 k.parts,k.AX,K.2 k.ij,N.2 k.weights,k.decay,by omega,k.bn,k.ids,k.uj,k.Yk,k.keep,k.OV,k.out,k.cache⟩
  rw[jO,t];have nil:(⟨#[]⟩:ByteArray).toList=[]:=by kernel_rfl
  refine vo L (λ_ x=>x=true) (λi f h _ hr=>?_) (λf hA=>?_) (by omega)
  ·simp only[cK h,if_true,bX h,bX (l:=M) (show i<M.length by omega),aw,bT (show i<1000000 by omega),bx,aY,gV,oT,nil,mV] at hr ⊢
   grind [List.getElem_mem]
  ·simp only[ed,bU,cu,aY,yCp,Rs];exact all.1 (DZ hA)
 have a:∀x∈([(⟨#[78,111,100,101,115]⟩:ByteArray),(⟨#[80,97,114,116,115]⟩:ByteArray),(⟨#[85,115,101,114,115]⟩:ByteArray),(⟨#[81,117,101,117,101,115]⟩:ByteArray),(⟨#[87,101,105,103,104,116,115]⟩:ByteArray),(⟨#[68,101,99,97,121]⟩:ByteArray),(⟨#[77,111,100,101]⟩:ByteArray),(⟨#[74,111,98,115]⟩:ByteArray),(⟨#[73,100,115]⟩:ByteArray),(⟨#[86,101,114,115,105,111,110,115]⟩:ByteArray),(⟨#[76,105,110,103,101,114]⟩:ByteArray),(⟨#[75,101,101,112]⟩:ByteArray),(⟨#[73,110]⟩:ByteArray),(⟨#[79,117,116]⟩:ByteArray),(⟨#[67,97,99,104,101]⟩:ByteArray)]:List ByteArray),x.toList≠[]:=by simp_all
 split
 ·rename_i w1;split
  ·rename_i w2;split
   ·rename_i w3;refine d _ ?_ _ _ rfl a rfl;simp only[bK,bB] at w1 w2 w3 ⊢;exact ⟨λw4=>⟨w1,w2,w3,w4⟩,λk=>k.share⟩
   ·rename_i w3;refine d _ ?_ _ _ rfl a rfl;simp only[bK,bB] at w3;simp only[bU,Gr];exact λk=>w3 k.qos
  ·rename_i w2;refine d _ ?_ _ _ rfl a rfl;simp only[bK,bB] at w2;simp only[bU,Gr];exact λk=>w2 k.size
 ·rename_i w1;refine d _ ?_ _ _ rfl a rfl;simp only[bK,bB] at w1;simp only[bU,Gr];exact λk=>w1 k.age
theorem Vx(s:a_)(hs:lz s):fD (zcV 5000 s) (bo s):=by
 obtain ⟨a,d,e⟩:=VI s hs;obtain ⟨f,g,h⟩:=UM s hs;obtain ⟨i,j,k⟩:=Re s hs
 grind [LM]
end Go.Plain
end
section
namespace Go.Plain
open Go.Abs
structure BS (L:List (Int×Int)) (k:Int):Prop where
 lo:0<=k
 hi:k<=64
 fit:∀p∈L,k * p.2<=p.1
 max:k<64->∃p∈L,p.1<(k+1) * p.2
theorem BS.Cq{L:List (Int×Int)}{k i:Int}(s:∀p∈L,0<=p.2)(h:BS L k)(A:BS L i):k=i:=by
 have u:∀{a b:Int},BS L a->BS L b->¬a<b:=λ{a b} x hb z=>by obtain ⟨p,j,E⟩:=x.max (by have:=hb.hi;omega);have F:=hb.fit p j;have G:(a+1) * p.2<=b * p.2:=yAW (by omega) (s p j);omega
 grind
theorem BS.nil:BS [] 64:=⟨by omega,by omega,by simp,by simp⟩
def qm(n a b:Int):Int:=if b > 0 then (if a.tdiv b<n then a.tdiv b else n) else n
theorem BS.step{L:List (Int×Int)}{k a b:Int}(h:BS L k)(z:∀p∈L,0<=p.2)(s:0<=a)(hb:0<=b):BS (L++[(a,b)]) (qm k a b):=by
 unfold qm;have u:=h.lo;have x:=h.hi;split
 ·rename_i j;rw[Int.tdiv_eq_ediv_of_nonneg s];have K:a / b * b<=a:=Int.ediv_mul_le a (by omega);have A:a<(a / b+1) * b:=Int.lt_ediv_add_one_mul_self a j;have E:0<=a / b:=Int.ediv_nonneg s (by omega);split
  ·rename_i F;refine ⟨E,by omega,λp i=>?_,λ_=>⟨(a,b),by simp,A⟩⟩;rcases mC.1 i with i | i
   ·have:=h.fit p i;have:a / b * p.2<=k * p.2:=yAW (by omega) (z p i);omega
   simp_all
  ·rename_i G;refine ⟨u,x,λp i=>?_,λhk=>?_⟩
   ·rcases mC.1 i with i | i
    ·exact h.fit p i
    ·simp only[Bp] at i;subst i;have:k * b<=a / b * b:=yAW (by omega) (by omega)
     grind
   ·obtain ⟨p,i,q⟩:=h.max hk
    grind
 ·rename_i j;have:b=0:=by omega
  subst this;refine ⟨u,x,λp i=>?_,λhk=>?_⟩
  ·rcases mC.1 i with i | i
   ·exact h.fit p i
   simp_all
  ·obtain ⟨p,i,q⟩:=h.max hk
   grind
theorem Px{n a b:Int}(h:b > 0):qm n a b=if a.tdiv b<n then a.tdiv b else n:=by unfold qm;omega
theorem PL{n a b:Int}(h:¬b > 0):qm n a b=n:=by unfold qm;omega
def Gy(a b:aE):List (Int×Int):=[(a.bF,b.bF),(a.Mem,b.Mem),(a.bJ,b.bJ),(a.bL,b.bL)]
def dH(a b:aE):Int:=qm (qm (qm (qm 64 a.bF b.bF) a.Mem b.Mem) a.bJ b.bJ) a.bL b.bL
theorem wz{a b:aE}(d:aN a)(hb:aN b):BS (Gy a b) (dH a b):=by have e:=BS.nil;have f:=e.step (by simp) d.GK.1 hb.GK.1;have g:=f.step (by simp;exact hb.GK.1) d.mem.1 hb.mem.1;have h:=g.step (by simp;exact ⟨hb.GK.1,hb.mem.1⟩) d.Jz.1 hb.Jz.1;have i:=h.step (by simp;exact ⟨hb.GK.1,hb.mem.1,hb.Jz.1⟩) d.Lw.1 hb.Lw.1;exact i
theorem w1:i64.wrap (0+1)=1:=rfl
theorem w2:i64.wrap (1+1)=2:=rfl
theorem w3:i64.wrap (2+1)=3:=rfl
theorem w4:i64.wrap (3+1)=4:=rfl
theorem wq{a b:Int}(d:0<=a/\a<=1048576)(hb:0<b):Mj .i64 a b=some (a.tdiv b):=by
 unfold Mj;rw[if_neg (by omega)];have e:0<=a / b:=Int.ediv_nonneg d.1 (by omega);have f:a / b<=a:=Int.ediv_le_self b d.1
 grind [wr]
def stc(a b:aE):Nat->Int
 |0=>64
 |1=>qm 64 a.bF b.bF
 |2=>qm (qm 64 a.bF b.bF) a.Mem b.Mem
 |3=>qm (qm (qm 64 a.bF b.bF) a.Mem b.Mem) a.bJ b.bJ
 |_=>dH a b
theorem count{a b:aE}(g:aN a)(hb:aN b)(p:b≠bV):mA 5000 a b=some (dH a b):=by
 obtain ⟨q,h,j⟩:=Uo a;obtain ⟨r,k,l⟩:=Uo b;have m:=j.2 g;have n:=l.2 hb;subst m n;have d:aE.beq b bV=false:=by grind [gK]
 simp only[mA,dV,h,k,aw,Pb,bU,cu,yC7,gq];change (if aE.beq b bV=true then some 0 else _)=_;rw[d];simp only[bU,cu];refine bO.eq (jm 4 (λi x=>x=(stc a b i,(i:Int))) (λi x f hi e s=>?_) (λx f e=>?_) rfl (by omega))
 ·subst e;rcases (show i=0\/i=1\/i=2\/i=3 by omega) with rfl | rfl | rfl | rfl
  ·rw[show ((0:Nat):Int)=0 from rfl];simp only[show decide ((0:Int)<4)=true from rfl,if_true,at4x0,aw,w1,bx,bB]
   grind [stc,qm,wq,aN.GK]
  ·rw[show ((1:Nat):Int)=1 from rfl];simp only[show decide ((1:Int)<4)=true from rfl,if_true,at4x1,aw,w2,bx,bB]
   grind [stc,PL,wq,aN.mem,Px]
  ·rw[show ((2:Nat):Int)=2 from rfl];simp only[show decide ((2:Int)<4)=true from rfl,if_true,at4x2,aw,w3,bx,bB]
   grind [stc,PL,wq,aN.Jz,Px]
  ·rw[show ((3:Nat):Int)=3 from rfl];simp only[show decide ((3:Int)<4)=true from rfl,if_true,at4x3,aw,w4,bx,bB]
   grind [stc,dH,PL,wq,aN.Lw,Px]
 ·subst e;simp only[show decide (((4:Nat):Int)<4)=false from rfl,bU,cu,aY];rfl
theorem HY{b:aE}(hb:aN b):OU 5000 b bV=some (decide (b=bV)):=by
 simp only[OU,au];have:=hb.GK;have:=hb.mem;have:=hb.Jz;have:=hb.Lw;rw[Bool.eq_iff_iff];simp only[bK,bB];obtain ⟨a,d,e,f⟩:=b
 grind [bV]
theorem Cm{a b:aE}(g:aN a)(hb:aN b)(w:b≠bV):zbH 5000 a b=some (dH a b):=by
 obtain ⟨T,z,t⟩:=wM a;obtain ⟨U,A,u⟩:=wM b;have E:=t.2 g;have F:=u.2 hb;subst E F;simp only[zbH,dV,z,A,aw,Pb,bU,cu];have G:OU 5000 b ({ bF:=0,Mem:=0,bJ:=0,bL:=0 }:aE)=some (decide (b=bV)):=HY hb;rw[G];simp only[aw,w,decide_false,bU,cu];have W:=g.GK;have Y:=g.mem;have Z:=g.Jz;have hl:=g.Lw;have l:=hb.GK;have m:=hb.mem;have n:=hb.Jz;have q:=hb.Lw;have K:∀p∈Gy a b,0<=p.2:=by
  intro p e;simp only[Gy,gB,MV,MR] at e;rcases e with rfl | rfl | rfl | rfl
  ·omega
  ·omega
  ·omega
  omega
 have done:∀k:Int,BS (Gy a b) k->k=dH a b:=λk hk=>hk.Cq K (wz g hb);have d:∀{i:Nat}{y:Int},i<=65->0<=y/\y<=1048576->0<=(i:Int) * y/\(i:Int) * y<=68157440:=λ{i y} hi v=>by have t:0<=(i:Int) * y:=yBZ (by omega) v.1;have u:(i:Int) * y<=65 * y:=yAW (by omega) v.1;omega
 refine bO.eq (jm 64 (λi x=>x=((i:Int),((i+1:Nat):Int) * b.bF,((i+1:Nat):Int) * b.Mem,((i+1:Nat):Int) * b.bJ,((i+1:Nat):Int) * b.bL)/\∀p∈Gy a b,(i:Int) * p.2<=p.1) (λi x f hi r L=>?_) (λx f r=>?_) ⟨by simp,λp e=>?_⟩ (by omega))
 ·obtain ⟨rfl,s⟩:=r;have m1:=d (i:=i+1) (by omega) l;have m2:=d (i:=i+1) (by omega) m;have m3:=d (i:=i+1) (by omega) n;have m4:=d (i:=i+1) (by omega) q;have j:∀y:Int,((i+1:Nat):Int) * y+y=((i+1+1:Nat):Int) * y:=λy=>by
   grind
  simp only[show decide ((i:Int)<64)=true by grind,if_true,OU,aw,Wo,bx,aY,bK,bB,bT (show i<1000000 by omega)];rw[wr (by omega) (by omega),wr (by omega) (by omega),wr (by omega) (by omega),wr (by omega) (by omega),j,j,j,j];refine ⟨λh=>L _ ⟨rfl,λp e=>?_⟩,λh=>done _ ⟨by omega,by omega,s,λ_=>?_⟩⟩
  ·simp only[Gy,gB,MV,MR] at e;rcases e with rfl | rfl | rfl | rfl
   ·simp_all
   ·simp_all
   ·simp_all
   simp_all
  ·rw[show ((i:Int)+1)=((i+1:Nat):Int) by omega];by_cases M:a.bF<((i+1:Nat):Int) * b.bF
   ·exact ⟨(a.bF,b.bF),by simp[Gy],M⟩
   by_cases N:a.Mem<((i+1:Nat):Int) * b.Mem
   ·exact ⟨(a.Mem,b.Mem),by simp[Gy],N⟩
   by_cases O:a.bJ<((i+1:Nat):Int) * b.bJ
   ·exact ⟨(a.bJ,b.bJ),by simp[Gy],O⟩
   by_cases S:a.bL<((i+1:Nat):Int) * b.bL
   ·exact ⟨(a.bL,b.bL),by simp[Gy],S⟩
   omega
 ·obtain ⟨rfl,s⟩:=r;simp only[show decide (((64:Nat):Int)<64)=false from rfl,bU,cu,aY];exact done _ ⟨by omega,by omega,s,λh=>by omega⟩
 ·simp only[Gy,gB,MV,MR] at e
  grind
def CZ(s:a_)(l:List Int)(need:aE):Int:=(l.map λn=>dH ((s.aj[n.toNat]?).getD bV) need).sum
theorem Q_{a b:aE}(d:aN a)(hb:aN b):0<=dH a b/\dH a b<=64:=⟨(wz d hb).lo,(wz d hb).hi⟩
theorem Il{s:a_}{need:aE}(k:bo s)(n:aN need)(E:need≠bV){l:List Int}(hl:l.length<=300)(p:nz l s.aj.length)(C:aE->Option Int)(r:∀a,aN a->C a=some (dH a need)) :
  bC (λ(t:Int×Int->Option Int) (g:Int×Int)=>if (decide (g.2<(l.length:Int)))=true then (aC l g.2).bind λu=>(aC s.aj u).bind λv=>(C v).bind λw=>t ((i64.wrap (g.1+w)),(i64.wrap (g.2+1))) else some g.1) 5000 (0,0)=some (CZ s l need):=by
 have z:∀(m:List Int),(∀x∈m,x∈l)->0<=CZ s m need/\CZ s m need<=64 * m.length:=by
  intro m;induction m with
  |nil=>grind [CZ]
  |cons x m ih=>
   intro h;have F:=ih λy A=>h y (pN _ A);have q:=p.mem x (h x (tD ..));have d:x.toNat<s.aj.length:=by omega
   have:=Q_ (k.nodes.ok (s.aj[x.toNat]) (bH d)) n
   grind [CZ]
 refine bO.eq (jm l.length (λi x=>x=(CZ s (l.take i) need,(i:Int))) (λi x f hi d j=>?_) (λx f d=>?_) (by grind) (by omega))
 ·subst d;have q:=p.mem l[i] (bH hi);obtain ⟨d,e⟩:=EL q.1 q.2;have c:=Q_ (k.nodes.ok (s.aj[l[i].toNat]) (bH d)) n;have b:=z (l.take i) λx d=>O_ d;have G:((l.take i).length:Int)<=300:=by grind
  simp only[cK hi,if_true,bX hi,aw,e,r _ (k.nodes.ok _ (bH d)),bT (show i<1000000 by omega)];rw[wr (by omega) (by omega)];refine j _ ?_;congr 1;rw[Ib hi];simp only[CZ,yCc,tX,List.map_nil,List.sum_append,List.sum_cons,List.sum_nil,eI d,SH];omega
 ·subst d;simp only[ed,bU,cu,aY,xO]
theorem SZ{s:a_}(hs:lz s)(k:bo s){q m:Int}{need:aE}(d:aN need)(f:need≠bV):∃b,jA 5000 s q m need=some b/\zdp 5000 s q m need=some b:=by
 obtain ⟨v,h,r⟩:=sm s hs;have t:=r.2 k;subst t;by_cases j:0<=q/\q<s.am.length/\1<=m
 ·obtain ⟨u,e⟩:=EL j.1 j.2.1;have g:=k.ij.ok _ (bH u);obtain ⟨l,n⟩:=EL g.part.1 g.part.2;have p:=k.parts.ok _ (bH l);have lp:=hs.part _ (bH l);refine ⟨decide (CZ s (s.aH[s.am[q.toNat].Part.toNat]) need≥m),?_,?_⟩
  ·simp only[jA,h,aw];rw[if_neg (by simp_all),e,aw];simp only[BV,h,aw];rw[if_neg (by have:=g.part;simp;omega),n,aw];have:=Il k d f (kL lp (by decide)) p.2 (λa=>mA 5000 a need) (λa i=>count i d f);rw[this,aw]
  ·simp only[zdp];rw[if_pos (by simp_all),e,aw];simp only[h_];rw[if_neg (by have:=g.part;simp_all)];simp only[n,aw];have:=Il k d f (kL lp (by decide)) p.2 (λa=>zbH 5000 a need) (λa i=>Cm i d f);rw[this,aw]
 ·refine ⟨false,?_,?_⟩
  ·simp only[jA,h,aw]
   grind
  ·simp only[zdp]
   grind
end Go.Plain
end
section
namespace Go.Plain
open Go.Abs
structure zS (j:aJ):Prop where
 st:1<=j.State/\j.State<=6
 start:j.Start≠0->3<=j.State
 fin:j.End≠0->5<=j.State
 ok:j.Ok=true->j.State=4\/j.State=5
 kill:j.cL=true->j.State=4\/j.State=6
structure fy (j:aJ):Prop where
 id:1<=j.Id/\j.Id<=1048576
 user:0<=j.ca/\j.ca<=7
 queue:0<=j.Queue/\j.Queue<=7
 many:1<=j.aM/\j.aM<=64
 need:aN j.ay
 vI:j.ay≠bV
 wall:1<=j.aR/\j.aR<=65536
 kR:j.aF.length<=4
 after:∀d∈j.aF,1<=d.aS/\d.aS<=j.Id-1
 version:1<=j.aK/\j.aK<=281474976710656
 born:0<=j.cQ/\j.cQ<=1099511627776
 start:0<=j.Start/\j.Start<=1099511627776
 fin:0<=j.End/\j.End<=1099511627776
 arr:0<=j.Array/\j.Array<=j.Id
 state:zS j
theorem name_ok(x:Int):bO (wR 5000 x) λr=>r.toList=[]↔¬(1<=x/\x<=6):=by
 simp only[wR,bx,aY,mV];have e:(⟨#[]⟩:ByteArray).toList=[]:=by kernel_rfl
 refine ⟨λh=>?_,λa=>⟨λh=>?_,λd=>⟨λh=>?_,λf=>⟨λh=>?_,λg=>⟨λh=>?_,λi=>⟨λh=>?_,λj=>?_⟩⟩⟩⟩⟩⟩
 ·simp_all
 ·simp_all
 ·simp_all
 ·simp_all
 ·simp_all
 ·simp_all
 grind
theorem Nl(j:aJ):fD (gS 5000 j) (zS j):=by
 have e:(⟨#[]⟩:ByteArray).toList=[]:=by kernel_rfl
 simp only[gS,dV];refine (name_ok j.State).bind λr i=>?_;have no:∀{p:Prop},¬p->(false=true↔p):=λh=>by simp[h]
 rw[bx];refine ⟨λh=>?_,λh=>?_⟩
 ·rw[aY];simp only[e,mV] at h;exact no λk=>i.1 h k.st
 ·simp only[e,mV] at h;have hs:1<=j.State/\j.State<=6:=yCo λl=>h (i.2 l);simp only[jr,Wn,aw,bU,cu];have fin:∀Q:Prop,(Q↔((j.Ok=true->j.State=4\/j.State=5)/\(j.cL=true->j.State=4\/j.State=6)->zS j)/\True)->True:=λ_ _=>trivial;have a:(j.Start≠0->3<=j.State)->(j.End≠0->5<=j.State)->bO (if ((j.Ok&&(j.State != 4))&&(j.State != 5))=true then some false else if ((j.cL&&(j.State != 4))&&(j.State != 6))=true then some false else some true) λb=>b=true↔zS j:=λf m=>by
   simp only[bx,aY,bK,JC,ne_eq];refine ⟨λq=>no λk=>by have:=k.ok q.1.1;omega,λn=>⟨λq=>no λk=>by have:=k.kill q.1.1;omega,λd=>?_⟩⟩;simp only[Rs];refine ⟨hs,f,m,λo=>?_,λo=>?_⟩
   ·grind
   grind
  have mid:(j.Start≠0->3<=j.State)->bO (if (j.End != 0)=true then (if (!((j.State == 5) || (j.State == 6)))=true then some false else if ((j.Ok&&(j.State != 4))&&(j.State != 5))=true then some false else if ((j.cL&&(j.State != 4))&&(j.State != 6))=true then some false else some true) else if ((j.Ok&&(j.State != 4))&&(j.State != 5))=true then some false else if ((j.cL&&(j.State != 4))&&(j.State != 6))=true then some false else some true) λb=>b=true↔zS j:=λf=>by
   rw[bx];refine ⟨λq=>?_,λq=>a f λg=>absurd g (by simp_all)⟩;rw[bx];refine ⟨λd=>?_,λd=>a f λ_=>?_⟩
   ·rw[aY];simp only[JC,ne_eq,gV,Bool.or_eq_false_iff,beq_eq_false_iff_ne] at q d;exact no λk=>by have:=k.fin q;omega
   grind [Bool.or_eq_false_iff]
  rw[bx];refine ⟨λq=>?_,λq=>mid λg=>absurd g (by simp_all)⟩;rw[bx];refine ⟨λd=>?_,λd=>mid λ_=>?_⟩
  ·rw[aY];simp only[JC,ne_eq,gC,mV] at q d;exact no λk=>by have:=k.start q;omega
  grind
theorem Cc(j:aJ):fD (zeX 5000 j) (fy j):=by
 have no:∀{p:Prop},¬p->bO (some false) (λb=>b=true↔p):=λh=>by rw[aY];simp[h]
 simp only[zeX,OZ,aw];have a:∀{l hi x:Int}{o:Option Bool}{P:Prop},(P->l<=x/\x<=hi)->(l<=x/\x<=hi->bO o λb=>b=true↔P)->bO (if (decide (l<=x)&&decide (x<=hi))=true then o else some false) λb=>b=true↔P:=λu m=>by rw[bx];simp only[bK,bB];exact ⟨λh=>m h,λh=>no λp=>h (u p)⟩
 refine a (λk=>k.id) λc1=>a (λk=>k.user) λA=>a (λk=>k.queue) λE=>a (λk=>k.many) λF=>?_;refine (Uo j.ay).bind λr v=>?_;rw[bx];refine ⟨λh=>?_,λh=>no λk=>h ?_⟩
 rotate_left
 ·have N:aE.beq j.ay bV=false:=by
   grind [gK,fy.vI]
  rw[v.2 k.need];change (true&&!(aE.beq j.ay bV))=true
  simp_all
 simp only[bK,gV] at h;have G:=v.1 h.1;have n:j.ay≠bV:=λe=>by
  have m:aE.beq j.ay bV=false:=h.2
  grind [gK]
 refine a (λk=>k.wall) λK=>?_;have g:fD (g_ 5000 j) (j.aF.length<=4/\∀d∈j.aF,1<=d.aS/\d.aS<=j.Id-1):=by
  simp only[g_,bx,aY,OZ,aw];refine ⟨λh=>?_,λh=>?_⟩
  ·grind
  ·simp only[bB] at h;refine ON j.aF (λd=>1<=d.aS/\d.aS<=j.Id-1) _ (λk=>k.2) (λi f w Q u m=>?_) (λf O=>?_) (by omega)
   ·simp only[cK w,if_true,bX w,aw,bT (show i<1000000 by omega),bx,aY,gV,yBC,yBn]
    grind [wr]
   ·simp only[ed,bU,cu,aY,Rs]
    grind
 refine g.bind λS y=>?_;rw[bx];refine ⟨λh=>?_,λh=>no λk=>h (y.2 ⟨k.kR,k.after⟩)⟩;have z:=y.1 h;refine a (λk=>k.version) λL=>a (λk=>k.born) λM=>a (λk=>k.start) λq=>a (λk=>k.fin) λs=>a (λk=>k.arr) λt=>?_;refine (Nl j).bind λrs hs=>?_;rw[aY,hs];exact ⟨λk=>⟨c1,A,E,F,G,n,K,z.1,z.2,L,M,q,s,t,k⟩,λk=>k.state⟩
theorem yp(j:aJ)(hl:j.aF.length<=10):fD (zc2 5000 j) (fy j):=by
 simp only[zc2,dV,SQ,aw];refine ON j.aF (λd=>1<=d.aS/\d.aS<=i64.wrap (j.Id-1)) _ (λk d a=>by have:=k.after d a;have:=k.id;grind [wr]) (λi f e Q g A=>?_) (λf E=>?_) (by omega)
 ·simp only[cK e,if_true,bX e,aw,bT (show i<1000000 by omega),bx,aY,gV,yBC,yBn]
  grind
 ·simp only[ed,bU,cu];obtain ⟨F,l,g⟩:=wM j.ay;simp only[l,aw];have no:∀{p:Prop},¬p->(False↔p):=λh=>by simp[h]
  simp only[if_true,cu,bx,aY,bB,gV,yBC,yBn,bK,bU,oT,JC,ne_eq,gC,mV];refine ⟨λc=>no λk=>by grind [fy.kR],λG=>⟨λc=>no λk=>by have:=k.id;omega,λc1=>⟨λc=>no λk=>by have:=k.user;omega,λK=>⟨λc=>no λk=>by have:=k.queue;omega,λL=>⟨λc=>no λk=>by have:=k.many;omega,λM=>⟨λc=>no λk=>(by grind [fy.need]),λm=>?_⟩⟩⟩⟩⟩⟩;have v:=g.1 m;have n:OU 5000 j.ay ({ bF:=0,Mem:=0,bJ:=0,bL:=0 }:aE)=some (decide (j.ay=bV)):=HY v;simp only[if_true,cu,n,aw,bx,aY,bB,gV,yBC,yBn,bK,bU,oT,JC,ne_eq,gC,mV];refine ⟨λc=>no λk=>k.vI c,λq=>⟨λc=>no λk=>by have:=k.wall;omega,λN=>⟨λc=>no λk=>by have:=k.state.st;omega,λO=>⟨λc=>no λk=>by have:=k.version;omega,λS=>⟨λc=>no λk=>by have:=k.arr;omega,λr=>⟨λc=>no λk=>by have:=k.born;omega,λs=>⟨λc=>no λk=>by have:=k.start;omega,λt=>⟨λc=>no λk=>by have:=k.fin;omega,λu=>⟨λc=>no λk=>by have:=k.state.start;omega,λw=>⟨λc=>no λk=>by have:=k.state.fin;omega,λx=>⟨λy=>?_,λc=>no λk=>c ?_⟩⟩⟩⟩⟩⟩⟩⟩⟩⟩⟩
  ·constructor
   ·intro z;refine ⟨by omega,by omega,by omega,by omega,v,q,by omega,by omega,λd a=>?_,by omega,by omega,by omega,by omega,by omega,⟨by omega,by omega,by omega,λo=>?_,λo=>?_⟩⟩
    ·grind [wr]
    ·simp_all
    simp_all
   ·intro k;cases hk:j.cL with
    |false=>simp_all
    |true=>
     rcases k.state.kill hk with c | c
     ·omega
     omega
  ·cases hk:j.Ok with
   |false=>simp_all
   |true=>
    rcases k.state.ok hk with c | c
    ·omega
    omega
end Go.Plain
end
section
namespace Go.Plain
open Go.Abs
section
variable{X R:Type}{b:(X->Option R)->X->Option R}{Q:R->Prop}
theorem lpM(I:X->Prop)(m:X->Nat)(hs:∀x f,I x->(∀a,I a->m a<m x->bO (f a) Q)->bO (b f x) Q){x0:X}(e:I x0){N:Nat}(h:m x0<N):bO (bC b N x0) Q:=by
 induction N generalizing x0 with
 |zero=>omega
 |succ N ih=>exact hs x0 _ e λa d g=>ih d (by omega)
end
theorem mid{i j:Nat}(h:i+j<1000000):i64.wrap (Int.fdiv (u64.wrap (i64.wrap ((i:Int)+(j:Int)))) (2 ^ 1))=(((i+j) / 2:Nat):Int):=by
 rw[wr (x:=(i:Int)+(j:Int)) (by omega) (by omega)]
 grind [Go.IntKind.wrap,Go.IntKind.bits]
def bS(l:List aJ):Prop:=∀i (h:i+1<l.length),l[i].Id<l[i+1].Id
theorem bS.lt{l:List aJ}(h:bS l):∀{i j:Nat}(s:i<j)(u:j<l.length),l[i].Id<l[j].Id:=by
 intro i j s u;induction j with
 |zero=>omega
 |succ j ih=>
  have x:=h j u
  grind
theorem bS.inj{l:List aJ}(h:bS l){i j:Nat}(hi:i<l.length)(u:j<l.length)(e:l[i].Id=l[j].Id):i=j:=by
 rcases Wx i j with s | s | s
 ·have:=h.lt s u;omega
 ·exact s
 ·have:=h.lt s hi;omega
structure At (l:List aJ) (id:Int) (r:Int):Prop where
 lo:0<=r
 hi:r.toNat<l.length
 is:l[r.toNat].Id=id
theorem At.mem{l:List aJ}{id r:Int}(h:At l id r):∃j∈l,j.Id=id:=⟨l[r.toNat]'h.hi,bH _,h.is⟩
theorem At.Cq{l:List aJ}{id r i:Int}(hs:bS l)(h:At l id r)(j:At l id i):r=i:=by have:=hs.inj h.hi j.hi (by grind [At.is]);have:=h.lo;have:=j.lo;omega
theorem half{l:List aJ}(hl:l.length<=300)(hs:bS l)(id:Int){R:Type}{Q:R->Prop}(C:aJ->Option Bool)(n:∀j∈l,C j=some (decide (j.Id<id)))(E:Int->Option R)
  (u:∀i:Nat,i<=l.length->(∀k (h:k<l.length),k<i->l[k].Id<id)->(∀k (h:k<l.length),i<=k->id<=l[k].Id)->bO (E (i:Int)) Q) :
  ∀ (b : (Int × Int -> Option R) -> Int × Int -> Option R), (∀ f x, b f x = if decide (x.1 < x.2) = true then (aC l (i64.wrap (Int.fdiv (u64.wrap (i64.wrap (x.1 + x.2))) (2 ^ 1)))).bind λa => (C a).bind λc => if c = true then f ((i64.wrap ((i64.wrap (Int.fdiv (u64.wrap (i64.wrap (x.1 + x.2))) (2 ^ 1))) + 1)), x.2) else f (x.1, (i64.wrap (Int.fdiv (u64.wrap (i64.wrap (x.1 + x.2))) (2 ^ 1)))) else E x.1) ->
   bO (bC b 5000 (0,(l.length:Int))) Q:=by
 intro b hb;refine lpM (λx=>∃i j:Nat,x=((i:Int),(j:Int))/\i<=j/\j<=l.length/\(∀k (h:k<l.length),k<i->l[k].Id<id)/\(∀k (h:k<l.length),j<=k->id<=l[k].Id)) (λx=>(x.2-x.1).toNat) (λx f p m=>?_) ⟨0,l.length,rfl,by omega,by omega,λk h hk=>by omega,λk h hk=>by omega⟩ (by omega);obtain ⟨i,j,rfl,v,r,s,t⟩:=p;rw[hb,bx];dsimp only;refine ⟨λh=>?_,λh=>?_⟩
 ·simp only[bB] at h;rw[mid (by omega)];have e:(i+j) / 2<l.length:=by omega
  rw[bX e,aw,n _ (bH e),aw,bx];refine ⟨λg=>?_,λg=>?_⟩
  ·simp only[bB] at g;rw[bT (by omega)];refine m _ ⟨(i+j) / 2+1,j,rfl,by omega,r,λk hk d=>?_,t⟩ (by omega);rcases Xd (yCx.1 d) with q | q
   ·have:=hs.lt q e;omega
   simp_all
  ·simp only[bB] at g;refine m _ ⟨i,(i+j) / 2,rfl,by omega,by omega,s,λk hk d=>?_⟩ (by omega);rcases Xd d with q | q
   ·have:=hs.lt q hk;omega
   simp_all
 ·simp only[bB] at h;have:i=j:=by omega
  simp_all
theorem Sr{l:List aJ}(hl:l.length<=300)(hs:bS l){id:Int}(m:0<=id/\id<=1048576)(g:∀j∈l,0<=j.Id/\j.Id<=1048576):bO (nW 5000 l id) λr=>(r.2=true↔∃j∈l,j.Id=id)/\(r.2=true->At l id r.1):=by
 simp only[nW,zaB];rw[jO];refine half hl hs id (λj=>some (decide (i64.wrap (j.Id-id)<0))) (λj d=>?_) (λi=>if (decide (i<(l.length:Int)))=true then (aC l i).bind λn=>(gO 5000 n id).bind λp=>some (i,(p == 0)) else some (i,false)) (λi hi s t=>?_) _ (λf x=>rfl)
 ·have:=g j d;rw[wr (by omega) (by omega)]
  grind
 ·rw[bx];refine ⟨λh=>?_,λh=>?_⟩
  ·simp only[bB] at h;have a:i<l.length:=by omega
   have:=g _ (bH a);rw[bX a,aw];simp only[gO,aw,aY,mV];rw[wr (by omega) (by omega)];refine ⟨⟨λe=>⟨_,bH a,by omega⟩,λ⟨j,d,e⟩=>?_⟩,λe=>⟨by omega,by omega,by grind⟩⟩;obtain ⟨k,hk,rfl⟩:=jV d;rcases Wx k i with q | q | q
   ·grind
   ·simp_all
   ·have:=hs.lt q hk;grind
  ·simp only[bB] at h;simp only[aY,bU,Gr,false_implies,NG]
   grind [List.getElem_of_mem]
theorem qE{l:List aJ}(hl:l.length<=300)(id:Int):bO (OP 5000 l id) λr=>(0<=r↔∃j∈l,j.Id=id)/\(0<=r->At l id r)/\(r<0->r=-1):=by
 simp only[OP];refine vo l (λ_ j=>j.Id≠id) (λi f h _ a=>?_) (λf h=>?_) (by omega)
 ·simp only[cK h,if_true,bX h,aw,bT (show i<1000000 by omega),bx,aY,mV];exact ⟨λe=>⟨⟨λ_=>⟨_,bH h,e⟩,λ_=>by omega⟩,λ_=>⟨by omega,by omega,by simp_all⟩,λh=>by omega⟩,λe=>a e⟩
 ·simp only[ed,bU,cu,aY];refine ⟨⟨λh=>by omega,λ⟨j,d,e⟩=>absurd e (DZ (A:=λj=>j.Id≠id) h j d)⟩,λh=>by omega,λ_=>trivial⟩
structure DM (l:List cO) (n:Int) (i:Nat) (x:cO):Prop where
 up:Lv (l.map (·.Node)) i<x.Node
 lt:x.Node<n
 lo:1<=x.aM
 hi:x.aM<=64
def bm(l:List cO)(n:Int):Prop:=∀i (h:i<l.length),DM l n i l[i]
theorem bm.node{l:List cO}{n:Int}(h:bm l n):nz (l.map (·.Node)) n:=λi hi=>by rw[yt] at hi;rw[Wu];exact ⟨(h i hi).up,(h i hi).lt⟩
theorem bm.mem{l:List cO}{n:Int}(h:bm l n):∀x∈l,0<=x.Node/\x.Node<n/\1<=x.aM/\x.aM<=64:=λx j=>by have s:=h.node.mem x.Node (iS.2 ⟨x,j,rfl⟩);obtain ⟨i,hi,rfl⟩:=jV j;have u:=h i hi;exact ⟨s.1,s.2,u.lo,u.hi⟩
theorem rQ{l:List cO}{i:Nat}(h:i<l.length):Lv (l.map (·.Node)) (i+1)=l[i].Node:=by grind [qL]
theorem oY(l:List cO)(n:Int)(hl:l.length<=300):fD (zeA 5000 l n) (bm l n):=by
 simp only[zeA];refine jm l.length (λi x=>x=(Lv (l.map (·.Node)) i,(i:Int))/\∀j (e:j<l.length),j<i->DM l n j l[j]) (λi x f hi a m=>?_) (λx f a=>?_) ⟨rfl,λj e h=>by omega⟩ (by omega)
 ·obtain ⟨rfl,g⟩:=a;simp only[cK hi,if_true,bX hi,aw,bT (show i<1000000 by omega),bx,aY,gC,bB];refine ⟨λh=>?_,λh=>m _ ⟨by rw[rQ hi],λj e d=>?_⟩⟩
  ·simp only[bU,Gr];intro p;have q:=p i hi;have r:=q.up;have s:=q.lt;have t:=q.lo;have u:=q.hi;omega
  ·rcases Xd (yCx.1 d) with k | k
   ·simp_all
   ·subst k;exact ⟨by omega,by omega,by omega,by omega⟩
 ·obtain ⟨rfl,g⟩:=a;simp only[ed,bU,cu,aY,Rs];exact λi hi=>g i hi hi
theorem Cs(l:List cO)(n:Int)(hl:l.length<=300):fD (zbo 5000 l n) (bm l n):=by
 simp only[zbo,dV];refine vo l (λi a=>DM l n i a) (λi f h v e=>?_) (λf h=>?_) (by omega)
 ·have g:decide ((i:Int) > 0)=decide (0<i):=by simp
  simp only[cK h,if_true,bX h,aw,bT (show i<1000000 by omega),bx,aY,bB,g,bU,cu];have bad:¬(DM l n i l[i])->(False↔bm l n):=λj=>by simp only[Gr];exact λd=>j (d i h)
  refine ⟨λp=>?_,λp=>⟨λq=>bad λk=>by have:=k.lt;omega,λq=>⟨λr=>bad λk=>by have:=k.lo;omega,λr=>⟨λs=>bad λk=>by have:=k.hi;omega,λs=>⟨λt=>?_,λt=>?_⟩⟩⟩⟩⟩
  ·simp only[Gr];intro d;have:=(d.mem _ (bH h)).1;omega
  ·obtain ⟨m,rfl⟩:∃m,i=m+1:=⟨i-1,by omega⟩;rw[wp1 (show m+1<1000000 by omega),bX (show m<l.length by omega)];simp only[aw,bx,bB,aY,bU];exact ⟨λu=>bad λk=>by have:=k.up;grind [rQ],λu=>e ⟨by grind [rQ],by omega,by omega,by omega⟩⟩
  ·have:i=0:=by omega
   subst this;exact e ⟨by grind [Lv],by omega,by omega,by omega⟩
 ·simp only[ed,bU,cu,aY,Rs];exact h
def kK(l:List cO):Int:=(l.map (·.aM)).sum
theorem ZU{l:List cO}(h:∀x∈l,1<=x.aM/\x.aM<=64):0<=kK l/\kK l<=64 * l.length:=by
 induction l with
 |nil=>simp[kK]
 |cons x l ih=>
  have:=ih λy a=>h y (pN _ a)
  grind [kK]
theorem NS{l:List cO}{i:Nat}(h:i<l.length):kK (l.take (i+1))=kK (l.take i)+l[i].aM:=by grind [List.take_succ_eq_append_getElem,kK]
theorem NR{l:List cO}{n:Int}(hl:l.length<=300)(h:bm l n):oI 5000 l=some (kK l):=by
 simp only[oI];refine bO.eq (jm l.length (λi x=>x=(kK (l.take i),(i:Int))) (λi x f hi a e=>?_) (λx f a=>?_) (by simp[kK]) (by omega))
 ·subst a;have q:=h.mem _ (bH hi);have b:=ZU (l:=l.take i) λx a=>(h.mem x (O_ a)).2.2;have g:((l.take i).length:Int)<=300:=by rw[DB];omega
  have d:zcs 5000 l[i].aM 0 64=some l[i].aM:=by
   simp only[zcs]
   grind
  simp only[cK hi,if_true,bX hi,aw,d,bT (show i<1000000 by omega)]
  grind [wr,NS]
 ·subst a;simp only[ed,bU,cu,aY,xO]
theorem II{l:List cO}{n:Int}(hl:l.length<=300)(h:bm l n):zc5 5000 l=some (kK l):=by
 simp only[zc5,dV];refine bO.eq (jm l.length (λi x=>x=(kK (l.take i),(i:Int))) (λi x f hi a d=>?_) (λx f a=>?_) (by simp[kK]) (by omega))
 ·subst a;have q:=h.mem _ (bH hi);have b:=ZU (l:=l.take i) λx a=>(h.mem x (O_ a)).2.2;have e:((l.take i).length:Int)<=300:=by grind
  simp only[cK hi,if_true,bX hi,aw,bT (show i<1000000 by omega)];rw[if_neg (by simp_all),if_pos (by grind),wr (by omega) (by omega)]
  grind [NS]
 ·subst a;simp only[ed,bU,cu,aY,xO]
theorem LS(l:List Int)(hl:l.length<=300)(x:Int):fD (zcf 5000 l x) (x∈l):=by
 simp only[fD,zcf,zex];rw[jO];refine vo l (λ_ y=>x≠y) (λi f h _ a=>?_) (λf h=>?_) (by omega)
 ·simp only[cK h,if_true,bX h,aw,bT (show i<1000000 by omega),bx,mV];refine ⟨λe=>?_,λe=>a e⟩;simp only[aY,bB]
  simp_all
 ·simp only[ed,bU,cu,aY,bB];exact ⟨λh=>by omega,λd=>absurd rfl (DZ (A:=λy=>x≠y) h x d)⟩
theorem ref_has(l:List Int)(hl:l.length<=300)(x:Int):fD (zfb 5000 l x) (x∈l):=by
 simp only[zfb];refine vo l (λ_ y=>y≠x) (λi f h _ d=>?_) (λf h=>?_) (by omega)
 ·simp only[cK h,if_true,bX h,aw,bT (show i<1000000 by omega),bx,mV,aY,Rs]
  grind
 ·simp only[ed,bU,cu,aY,Gr];exact λa=>absurd rfl (DZ (A:=λy=>y≠x) h x a)
structure jH (s:a_) (j:aJ) (l:List cO):Prop where
 shares:bm l s.aj.length
 Sm:kK l=j.aM
 q:0<=j.Queue/\j.Queue<s.am.length
 part:∀x∈l,x.Node∈(s.aH[((s.am[j.Queue.toNat]?).getD default).Part.toNat]?).getD []
theorem Ng{s:a_}(hs:lz s)(k:bo s)(j:aJ)(l:List cO)(hl:l.length<=300):fD (zfh 5000 s j l) (jH s j l):=by
 have no:∀{p:Prop},¬p->bO (some false) (λb=>b=true↔p):=λh=>by rw[aY];simp[h]
 simp only[zfh,dV];refine (oY l _ hl).bind λr g=>?_;rw[bx];refine ⟨λh=>?_,λh=>?_⟩
 ·simp only[if_true];exact no λk=>by grind [jH.shares]
 ·simp only[gV,oT] at h;have S:=g.1 h;rw[NR hl S,aw,bx];refine ⟨λq=>no λk=>by grind [jH.Sm],λq=>?_⟩;have t:kK l=j.aM:=by simp_all
  rw[bx];refine ⟨λu=>no λk=>by have:=k.q;grind,λu=>?_⟩;have a:0<=j.Queue/\j.Queue<s.am.length:=by simp_all
  obtain ⟨d,e⟩:=EL a.1 a.2;have m:=k.ij.ok _ (bH d);obtain ⟨v,w⟩:=EL m.part.1 m.part.2;have lp:=hs.part _ (bH v);have y:(s.aH[((s.am[j.Queue.toNat]?).getD default).Part.toNat]?).getD []=s.aH[s.am[j.Queue.toNat].Part.toNat]:=by simp_all
  rw[e,aw,w,aw];refine ON l (λx=>x.Node∈s.aH[s.am[j.Queue.toNat].Part.toNat]) _ (λk x d=>by rw[<-y];exact k.part x d) (λi f n Q z A=>?_) (λf E=>?_) (by omega)
  ·simp only[cK n,if_true,bX n,aw,bT (show i<1000000 by omega)];refine (LS _ (kL lp (by decide)) _).bind λr g=>?_;simp only[bx,aY,gV,oT]
   grind
  ·simp only[ed,bU,cu,aY,Rs];exact ⟨S,t,a,by simp_all⟩
theorem FR{s:a_}(hs:lz s)(k:bo s)(j:aJ)(l:List cO)(hl:l.length<=300):fD (zcx 5000 s j l) (jH s j l):=by
 have no:∀{p:Prop},¬p->bO (some false) (λb=>b=true↔p):=λh=>by rw[aY];simp[h]
 simp only[zcx,dV];refine (Cs l _ hl).bind λr g=>?_;rw[bx];refine ⟨λh=>?_,λh=>?_⟩
 ·simp only[if_true];exact no λk=>by grind [jH.shares]
 ·simp only[gV,oT] at h;have S:=g.1 h;rw[II hl S,aw,bx];refine ⟨λt=>no λk=>by have:=k.Sm;have:=k.q;grind,λt=>?_⟩;have m:kK l=j.aM/\0<=j.Queue/\j.Queue<s.am.length:=by simp_all
  have a:=m.2;obtain ⟨d,e⟩:=EL a.1 a.2;have n:=k.ij.ok _ (bH d);obtain ⟨u,v⟩:=EL n.part.1 n.part.2;have lp:=hs.part _ (bH u);have w:(s.aH[((s.am[j.Queue.toNat]?).getD default).Part.toNat]?).getD []=s.aH[s.am[j.Queue.toNat].Part.toNat]:=by simp_all
  rw[e,aw,v,aw];refine ON l (λx=>x.Node∈s.aH[s.am[j.Queue.toNat].Part.toNat]) _ (λk x d=>by rw[<-w];exact k.part x d) (λi f q Q y z=>?_) (λf A=>?_) (by omega)
  ·simp only[cK q,if_true,bX q,aw,bT (show i<1000000 by omega)];refine (ref_has _ (kL lp (by decide)) _).bind λr g=>?_;simp only[bx,aY,gV,oT]
   grind
  ·simp only[ed,bU,cu,aY,Rs];exact ⟨S,m.1,a,by simp_all⟩
end Go.Plain
end
section
namespace Go.Plain
open Go.Abs
def cmp:Nat->aE->Int
 |0,r=>r.bF
 |1,r=>r.Mem
 |2,r=>r.bJ
 |_,r=>r.bL
theorem wB{r:aE}:aN r↔∀c,0<=cmp c r/\cmp c r<=1048576:=by
 constructor
 ·intro h c
  match c with
  |0=>exact h.GK
  |1=>exact h.mem
  |2=>exact h.Jz
  |_+3=>exact h.Lw
 ·intro h;exact ⟨h 0,h 1,h 2,h 3⟩
theorem dW{a b:aE}(h:∀c,cmp c a=cmp c b):a=b:=by
 obtain ⟨d,e,f,g⟩:=a;obtain ⟨i,j,k,l⟩:=b;have m:=h 0;have n:=h 1;have p:=h 2;have q:=h 3
 grind [cmp]
def fA(a b:aE):aE:={ bF:=a.bF-b.bF,Mem:=a.Mem-b.Mem,bJ:=a.bJ-b.bJ,bL:=a.bL-b.bL }
def Ca(a b:aE):aE:={ bF:=a.bF+b.bF,Mem:=a.Mem+b.Mem,bJ:=a.bJ+b.bJ,bL:=a.bL+b.bL }
def mulR(n:Int)(a:aE):aE:={ bF:=n * a.bF,Mem:=n * a.Mem,bJ:=n * a.bJ,bL:=n * a.bL }
theorem Dz(c:Nat)(a b:aE):cmp c (fA a b)=cmp c a-cmp c b:=by match c with | 0=>rfl | 1=>rfl | 2=>rfl | _+3=>rfl
theorem wH(c:Nat)(a b:aE):cmp c (Ca a b)=cmp c a+cmp c b:=by match c with | 0=>rfl | 1=>rfl | 2=>rfl | _+3=>rfl
theorem B_(c:Nat)(n:Int)(a:aE):cmp c (mulR n a)=n * cmp c a:=by match c with | 0=>rfl | 1=>rfl | 2=>rfl | _+3=>rfl
theorem OO(c:Nat):cmp c bV=0:=by match c with | 0=>rfl | 1=>rfl | 2=>rfl | _+3=>rfl
theorem DH{a:Int}(h:a.natAbs<2 ^ 53):zZ a=some a:=by unfold zZ;simp_all
theorem HV{a b c d:Int}(e:a.natAbs<2 ^ 53)(hb:b.natAbs<2 ^ 53)(f:c.natAbs<2 ^ 53)(g:d.natAbs<2 ^ 53) :
  bO (zdG 5000 (a,b) (c,d)) λr=>(r.2=0↔aN ⟨a,b,c,d⟩)/\(r.2=0->r.1=⟨a,b,c,d⟩):=by
 simp only[zdG,nQ,DH e,DH hb,DH f,DH g,aw];refine (Uo _).bind λr h=>?_;simp only[bx,aY,gV,oT]
 grind
theorem iC{n x:Int}(a:0<=n/\n<=64)(d:0<=x/\x<=1048576):0<=n * x/\n * x<=67108864:=by have e:0<=n * x:=yBZ a.1 d.1;have f:n * x<=64 * x:=yAW a.2 d.1;omega
theorem OK{a:aE}{n:Int}(d:aN a)(m:1<=n/\n<=64):bO (mD 5000 a n) λr=>(r.2=0↔aN (mulR n a))/\(r.2=0->r.1=mulR n a):=by
 simp only[mD];obtain ⟨p,i,j⟩:=Uo a;have k:=j.2 d;subst k;have e:0<=n/\n<=64:=by omega
 simp only[i,aw,Pb,yC7];rw[if_neg (by simp_all)];by_cases g:a=bV
 ·subst g;rw[if_pos (by exact gK.2 rfl),aY];have:mulR n bV=bV:=by simp[mulR,bV]
  rw[this];exact ⟨⟨λ_=>⟨by simp[bV],by simp[bV],by simp[bV],by simp[bV]⟩,λ_=>rfl⟩,λ_=>rfl⟩
 ·rw[if_neg (show ¬(aE.beq a ({ bF:=0,Mem:=0,bJ:=0,bL:=0 }:aE)=true) from λh=>g (gK.1 h)),if_neg (by grind)];have f:∀{x:Int},0<=x/\x<=1048576->yz x n=some (x * n):=λ{x} q=>by unfold yz;grind
  have s:=iC e d.GK;have t:=iC e d.mem;have u:=iC e d.Jz;have v:=iC e d.Lw;simp only[zdj,aw,f d.GK,f d.mem,f d.Jz,f d.Lw];rw[Int.mul_comm a.bF n,Int.mul_comm a.Mem n,Int.mul_comm a.bJ n,Int.mul_comm a.bL n];refine (HV (by omega) (by omega) (by omega) (by omega)).bind λr l=>?_;rw[aY];exact l
theorem XW{a b:aE}(d:aN a)(hb:aN b):bO (wC 5000 a b) λr=>(r.2=0↔aN (fA a b))/\(r.2=0->r.1=fA a b):=by
 simp only[wC,dV];obtain ⟨m,f,g⟩:=Uo a;have h:=g.2 d;subst h;obtain ⟨n,i,j⟩:=Uo b;have k:=j.2 hb;subst k;have e:∀{x y:Int},0<=x/\x<=1048576->0<=y/\y<=1048576->yu x y=some (x-y):=λ{x y} p q=>by unfold yu;grind
 simp only[f,i,aw,Pb,bU,cu,zdj,e d.GK hb.GK,e d.mem hb.mem,e d.Jz hb.Jz,e d.Lw hb.Lw];have:=d.GK;have:=d.mem;have:=d.Jz;have:=d.Lw;have:=hb.GK;have:=hb.mem;have:=hb.Jz;have:=hb.Lw;refine (HV (by omega) (by omega) (by omega) (by omega)).bind λr l=>?_;rw[aY];exact l
def dL(l:List cO)(i:Int):Int:=(l.map λx=>if x.Node=i then x.aM else 0).sum
theorem nD{l:List cO}{k:Nat}(h:k<l.length)(i:Int):dL (l.take (k+1)) i=dL (l.take k) i+if l[k].Node=i then l[k].aM else 0:=by grind [List.take_succ_eq_append_getElem,dL]
theorem yL{l:List cO}(h:∀x∈l,0<=x.aM)(i:Int):0<=dL l i:=by
 induction l with
 |nil=>simp[dL]
 |cons x l ih=>grind [dL]
theorem SF{l m:List cO}(i:Int):dL (l++m) i=dL l i+dL m i:=by simp[dL]
theorem WX{l:List cO}(h:∀x∈l,0<=x.aM)(k:Nat)(i:Int):dL (l.take k) i<=dL l i:=by have:=SF (l:=l.take k) (m:=l.drop k) i;rw[Oc] at this;have:=yL (l:=l.drop k) (λx a=>h x (yBp a)) i;omega
theorem sq{l:List cO}{n:Int}(h:bm l n)(i:Int):0<=dL l i/\dL l i<=64:=by
 refine ⟨yL (λx d=>by have:=h.mem x d;omega) i,?_⟩;have a:∀k,k<=l.length->(dL (l.take k) i<=64/\(dL (l.take k) i≠0->i<=Lv (l.map (·.Node)) k)):=by
  intro k;induction k with
  |zero=>grind [dL]
  |succ k ih=>intro hk;obtain ⟨e,f⟩:=ih (by omega);have s:=h k (by omega);have s1:=s.up;have g:=s.lt;have j:=s.lo;have m:=s.hi;rw[nD (by omega),rQ (show k<l.length by omega)];omega
 have:=(a l.length (cM _)).1
 simp_all
theorem QJ{l:List cO}{n:Int}(hl:l.length<=300)(h:bm l n)(i:Int):zcH 5000 l i=some (dL l i):=by
 simp only[zcH,dV];refine bO.eq (jm l.length (λk x=>x=(dL (l.take k) i,(k:Int))) (λk x f hi a g=>?_) (λx f a=>?_) (by simp[dL]) (by omega))
 ·subst a;have q:=h.mem _ (bH hi);have b:=yL (l:=l.take k) (λx a=>by have:=h.mem x (O_ a);omega) i;have j:=WX (λx a=>by have:=h.mem x a;omega) k i;have m:=sq h i;have e:=nD hi i;simp only[cK hi,if_true,bX hi,aw,bT (show k<1000000 by omega),bx,mV];refine ⟨λd=>?_,λd=>g _ ?_⟩
  ·rw[if_pos d] at e
   grind [wr]
  simp_all
 ·subst a;simp only[ed,bU,cu,aY,xO]
def qk(a:bG)(i:Nat)(r:aE):aE:=fA r (mulR (dL a.ae i) a.ay)
def v_(F:List aE)(a:bG):Prop:=∀i (h:i<F.length),aN (qk a i F[i])
structure rS (F:List aE) (a:bG) (G:List aE):Prop where
 len:G.length=F.length
 dg:∀i (h:i<G.length),G[i]=qk a i (F[i]'(by omega))
theorem UX{a:bG}{F:List aE}(hF:F.length<=300)(hl:a.ae.length<=300)(N:bm a.ae F.length)(E:aN a.ay)(S:∀r∈F,aN r) :
  bO (zbS 5000 a F) λr=>(r.2=0↔v_ F a)/\(r.2=0->rS F a r.1):=by
 simp only[zbS,zba,yI (show F.length<=1000000 by omega),aw];have nn:∀x∈a.ae,0<=x.aM:=λx p=>by have:=N.mem x p;omega
 refine jm a.ae.length (λk x=>x.1=(k:Int)/\x.2.length=F.length/\(∀r∈x.2,aN r)/\∀i (h:i<x.2.length) (j:i<F.length),x.2[i]=fA F[i] (mulR (dL (a.ae.take k) i) a.ay)) (λk x f hk p T=>?_) (λx f p=>?_) ⟨rfl,rfl,S,λi h j=>?_⟩ (by omega)
 ·obtain ⟨U,G⟩:=x;obtain ⟨rfl,g,m,d⟩:=p;dsimp only at g m d ⊢;have q:=N.mem _ (bH hk);have O:a.ae[k].Node.toNat<G.length:=by omega
  have u:a.ae[k].Node.toNat<F.length:=by omega
  have K:((a.ae[k].Node.toNat:Nat):Int)=a.ae[k].Node:=by omega
  have W:=nD hk a.ae[k].Node;rw[if_pos rfl] at W;have le:=WX nn (k+1) a.ae[k].Node;have n0:=yL (l:=a.ae.take k) (λx p=>nn x (O_ p)) a.ae[k].Node;have L:=d _ O u;rw[K] at L;have bad:(∃c,cmp c G[a.ae[k].Node.toNat]-a.ae[k].aM * cmp c a.ay<0)->¬v_ F a:=λ⟨c,w⟩ y=>by
   have M:=wB.1 (y _ u) c;rw[qk,Dz,B_,K] at M;rw[L,Dz,B_] at w;have z:0<=cmp c a.ay:=(wB.1 E c).1;have h3:(dL (a.ae.take k) a.ae[k].Node+a.ae[k].aM) * cmp c a.ay<=dL a.ae a.ae[k].Node * cmp c a.ay:=yAW (by omega) z
   grind
  simp only[cK hk,if_true,bX hk,aw,bT (show k<1000000 by omega)];refine (OK E q.2.2).bind λr s=>?_;simp only[bx,aY,JC,ne_eq,Vt];refine ⟨λh=>⟨⟨λj=>absurd j h,λy=>?_⟩,λj=>absurd j h⟩,λh=>?_⟩
  ·exfalso;refine bad ?_ y;have n:¬aN (mulR a.ae[k].aM a.ay):=λv=>h (s.1.2 v);rw[wB] at n;obtain ⟨c,w⟩:=Classical.not_forall.1 n;refine ⟨c,?_⟩;rw[B_] at w;have M:=iC (show 0<=a.ae[k].aM/\a.ae[k].aM<=64 by omega) (wB.1 E c)
   grind [wB,List.getElem_mem]
  ·have Y:=s.2 h;have Z:=s.1.1 h;obtain ⟨aa,e⟩:=EL (l:=G) (x:=a.ae[k].Node) (by omega) (by omega);rw[e,aw,Y];refine (XW (m _ (bH O)) Z).bind λr2 t=>?_;simp only[aw,bx,aY,JC,ne_eq,Vt];refine ⟨λj=>⟨⟨λz=>absurd z j,λy=>?_⟩,λz=>absurd z j⟩,λj=>?_⟩
   ·exfalso;refine bad ?_ y;have n:¬aN (fA G[a.ae[k].Node.toNat] (mulR a.ae[k].aM a.ay)):=λv=>j (t.1.2 v);rw[wB] at n;obtain ⟨c,w⟩:=Classical.not_forall.1 n;refine ⟨c,?_⟩;rw[Dz,B_] at w;have M:=iC (show 0<=a.ae[k].aM/\a.ae[k].aM<=64 by omega) (wB.1 E c)
    grind [wB,List.getElem_mem]
   ·have e2:=t.2 j;have v2:=t.1.1 j;refine T _ ⟨rfl,by simp_all,λr ab=>?_,λi hi ad=>?_⟩
    ·grind
    ·dsimp only at hi ⊢;rw[yBy] at hi;rw[List.getElem_set];have A:=nD hk (i:Int);split
     ·rename_i ei;subst ei;rw[e2,L];rw[if_pos K.symm] at A;rw[A];refine dW λc=>?_;rw[Dz,Dz,Dz,B_,B_,B_,Int.add_mul,K];omega
     grind
 ·obtain ⟨U,G⟩:=x;obtain ⟨rfl,g,m,d⟩:=p;dsimp only at g m d ⊢;simp only[ed,bU,cu,aY,xO,Rs,true_implies] at d ⊢;refine ⟨λi h=>?_,g,λi h=>d i h (by omega)⟩;have:=m _ (bH (show i<G.length by omega));rw[d i (by omega) h] at this;exact this
 ·refine dW λc=>?_;rw[Dz,B_];simp[dL]
theorem Ic{a:bG}(h:a.ae.length<=1000000):jg 5000 a=some a:=by simp only[jg,zbF,yI h,aw]
structure vM (M:List (Int×bG)) (F:List aE) (a:bG):Prop where
 Gk:1<=a.aS/\a.aS<=1048576
 some':a.ae≠[]
 shares:bm a.ae F.length
 need:aN a.ay
 free:dh M a.aS=none
 fits:v_ F a
theorem KP{M:List (Int×bG)}{a:bG}{F:List aE}(g:F.length<=300)(hl:a.ae.length<=300)(i:∀r∈F,aN r) :
  bO (zaZ 5000 M a F) λr=>(r.2.1=0↔vM M F a)/\(r.2.1=0->r.1=jR M a.aS a/\rS F a r.2.2):=by
 simp only[zaZ,dV,if_true,bU,cu];have no:∀{p:Prop}{x:List (Int×bG)×Int×List aE}{q:Prop},¬p->x.2.1≠0->bO (some x) (λr=>(r.2.1=0↔p)/\(r.2.1=0->r.1=jR M a.aS a/\rS F a r.2.2)):=λ{p x q} l m=>by grind [aY]
 rw[bx];refine ⟨λh=>?_,λh=>?_⟩
 ·simp only[gC,bB,mV] at h;refine no (q:=True) (λt=>?_) (by simp);have:=t.Gk;rcases h with h | h
  ·omega
  ·exact t.some' (Zv (by omega))
 ·simp only[gC,bB,mV,not_or] at h;refine (oY _ _ hl).bind λr j=>?_;rw[bx];refine ⟨λe=>no (q:=True) (λt=>by grind [vM.shares]) (by simp),λe=>?_⟩;simp only[gV,oT] at e;have S:=j.1 e;refine (Uo a.ay).bind λn f=>?_;rw[bx];refine ⟨λe=>no (q:=True) (λt=>by grind [vM.need]) (by simp),λe=>?_⟩;simp only[gV,oT] at e;have V:=f.1 e;cases k:dh M a.aS with
  |some v=>exact no (q:=True) (λt=>by grind [vM.free]) (by simp)
  |none=>
   simp only[oel];refine (UX g hl S V i).bind λs d=>?_;rw[bx];refine ⟨λe=>?_,λe=>?_⟩
   ·simp only[JC,ne_eq] at e;exact no (q:=True) (λt=>e (d.1.2 t.fits)) e
   ·simp only[JC,ne_eq,Vt] at e;rw[Ic (by omega),aw,aY];refine ⟨⟨λ_=>⟨by omega,λu=>?_,S,V,k,d.1.1 e⟩,λ_=>rfl⟩,λ_=>⟨rfl,d.2 e⟩⟩
    simp_all
end Go.Plain
end
section
namespace Go.Plain
open Go.Abs
theorem cX{p:Prop}(h:¬p):bO (some false) (λb=>b=true↔p):=by grind [aY]
theorem qR{p:Prop}(h:p):bO (some true) (λb=>b=true↔p):=by grind [aY]
structure Pf (s:a_) (st:bZ):Prop where
 now:0<=st.aQ/\st.aQ<=1099511627776
 next:1<=st.Next/\st.Next<=s.kX+1
 book:1<=st.cR/\st.cR<=281474976710656
theorem PY{s:a_}(k:bo s)(st:bZ):fD (jK 5000 s st) (Pf s st):=by have f:=k.ids;simp only[jK,zds,aw,fD];rw[wr (x:=s.kX+1) (by omega) (by omega)];simp only[bx,aY,bK,bB,bU,Gr];exact ⟨λa=>⟨λd=>⟨λe=>⟨a,d,e⟩,λh=>h.book⟩,λd h=>d h.next⟩,λa h=>a h.now⟩
def jB(x:Int):Int:=if x=3 then 1 else if x=4 then 2 else if x=5\/x=6 then 3 else 0
theorem Ew(x:Int):0<=jB x/\jB x<=3:=by unfold jB;split <;> (try split) <;> (try split) <;> omega
theorem Yi(x:Int):pg 5000 x=some (jB x):=by
 simp only[pg,Wn,aw,mV,gC]
 grind [jB]
structure iT (s:a_) (st:bZ) (j:aJ):Prop where
 ok:fy j
 next:j.Id<st.Next
 user:j.ca<s.aT
 queue:j.Queue<s.am.length
 born:j.cQ<=st.aQ
 start:j.Start<=st.aQ
 fin:j.End<=st.aQ
 version:j.aK<=s.aI+jB j.State
def JG(l:List aJ):Nat->Int
 |0=>0
 |i+1=>((l[i]?).map (·.Id)).getD 0
theorem wy{l:List aJ}{i:Nat}(h:i<l.length):JG l (i+1)=l[i].Id:=by simp[JG,h]
structure dw (s:a_) (st:bZ):Prop where
 len:(st.ai.length:Int)<=s.ai
 each:∀j∈st.ai,iT s st j
 bM:bS st.ai
theorem SK{s:a_}{st:bZ}(h:(st.ai.length:Int)<=s.ai)(g:∀i (h:i<st.ai.length),iT s st st.ai[i]/\JG st.ai i<st.ai[i].Id):dw s st:=
 ⟨h,λj a=>by grind [List.getElem_of_mem],λi hi=>by grind [wy]⟩
theorem dw.dg{s:a_}{st:bZ}(h:dw s st)(i:Nat)(hi:i<st.ai.length):iT s st st.ai[i]/\JG st.ai i<st.ai[i].Id:=by
 refine ⟨h.each _ (bH hi),?_⟩
 match i,hi with
 |0,hi=>have:=(h.each _ (bH hi)).ok.id;grind [JG]
 |i+1,hi=>rw[wy (by omega)];exact h.bM i hi
theorem dw.ids{s:a_}{st:bZ}(h:dw s st):∀j∈st.ai,0<=j.Id/\j.Id<=1048576:=λj i=>by have:=(h.each j i).ok.id;omega
theorem max3{a b c n:Int}:(if c > (if b > a then b else a) then c else (if b > a then b else a)) > n↔a > n\/b > n\/c > n:=by omega
theorem jobs_ok{s:a_}(k:bo s){st:bZ}(n:lX s st):fD (rc 5000 s st) (dw s st):=by
 have y:=k.uj;have hl:=n.bn;simp only[rc,dV,Yi,aw];rw[fD,bx];refine ⟨λh=>cX λq=>?_,λp=>?_⟩
 ·have:=q.len
  grind
 ·simp only[bB] at p;refine jm st.ai.length (λi x=>x=(JG st.ai i,(i:Int))/\∀j (h:j<st.ai.length),j<i->iT s st st.ai[j]/\JG st.ai j<st.ai[j].Id) (λi x f hi e t=>?_) (λx f e=>?_) ⟨rfl,λj h g=>by omega⟩ (by omega)
  ·obtain ⟨rfl,m⟩:=e;simp only[cK hi,if_true,bX hi,aw,bT (show i<1000000 by omega)];refine (Cc _).bind λr d=>?_;rw[bx];refine ⟨λh=>cX λq=>?_,λh=>?_⟩
   ·have a:=q.dg i hi;have z:=d.2 a.1.ok;have A:=a.1.next
    grind
   ·simp only[gC,bB,not_or,gV,oT] at h;have a:=d.1 h.1.1;rw[bx];refine ⟨λh=>cX λq=>?_,λu=>?_⟩
    ·have a:=(q.dg i hi).1;have:=a.user;have:=a.queue
     grind
    ·simp only[gC,bB,not_or] at u;rw[bx];refine ⟨λh=>?_,λv=>?_⟩
     ·refine cX λq=>?_;have a:=(q.dg i hi).1;have:=a.born;have:=a.start;have:=a.fin
      grind
     ·simp only[bB,max3] at v;have E:=Ew st.ai[i].State;rw[wr (x:=s.aI+jB _) (by omega) (by omega),bx];refine ⟨λh=>cX λq=>?_,λw=>t _ ⟨by rw[wy hi],λj F l=>?_⟩⟩
      ·have a:=(q.dg i hi).1.version
       grind
      ·simp only[bB] at w;rcases Xd (yCx.1 l) with g | g
       ·simp_all
       ·subst g;exact ⟨⟨a,by omega,by omega,by omega,by omega,by omega,by omega,by omega⟩,by omega⟩
  ·obtain ⟨rfl,m⟩:=e;simp only[ed,bU,cu];exact qR (SK (by omega) λi hi=>m i hi hi)
structure WaitsIn (s:a_) (st:bZ) (j:aJ):Prop where
 fits:jA 5000 s j.Queue j.aM j.ay=some true
 after:∀d∈j.aF,∃i∈st.ai,i.Id=d.aS
def IF(s:a_)(st:bZ)(j:aJ):Prop:=j.State<5->WaitsIn s st j
theorem Qo{s:a_}(k:bo s){st:bZ}(n:lX s st)(J:dw s st):fD (jE 5000 s st) (∀j∈st.ai,IF s st j):=by
 have hl:=n.bn;simp only[jE,dV,Wn,aw];refine ON st.ai (IF s st) _ (λh=>h) (λi f hi Q p t=>?_) (λf h=>?_) (by omega)
 ·simp only[cK hi,if_true,bX hi,aw,bT (show i<1000000 by omega)];have a:=J.each _ (bH hi);have x:=a.ok.state.st;rw[bx];refine ⟨λh=>p λhs=>?_,λh=>?_⟩
  ·grind
  ·simp only[gC,mV,not_or] at h;have hs:st.ai[i].State<5:=by omega
   obtain ⟨b,u,A⟩:=SZ n.spec k (q:=st.ai[i].Queue) (m:=st.ai[i].aM) a.ok.need a.ok.vI;rw[u,aw,bx];refine ⟨λhb=>?_,λhb=>?_⟩
   ·rw[aY];refine t λw=>?_;have:=(w hs).fits
    simp_all
   ·simp only[gV,oT] at hb;subst hb;have E:=a.ok.kR;refine vo st.ai[i].aF (λ_ d=>∃j∈st.ai,j.Id=d.aS) (λm g e v y=>?_) (λg v=>?_) (by omega)
    ·simp only[cK e,if_true,bX e,aw,bT (show m<1000000 by omega)];have F:=a.ok.after _ (bH e);have z:=a.ok.id;refine (Sr (by omega) J.bM (id:=st.ai[i].aF[m].aS) (by omega) J.ids).bind λr l=>?_;rw[bx];refine ⟨λhb=>?_,λhb=>y ?_⟩
     ·rw[aY];refine t λw=>?_;have:=l.1.2 ((w hs).after _ (bH e))
      simp_all
     simp_all
    ·simp only[ed,bU,cu];exact p λ_=>⟨u,DZ v⟩
 ·simp only[ed,bU,cu];exact qR h
structure Ms (s:a_) (st:bZ):Prop where
 len:(st.gz.length:Int)=s.aT
 use:∀x∈st.gz,0<=x/\x<=1099511627776
 qlen:st.az.am.length=s.am.length
 nodes:0<=st.az.aj/\st.az.aj<=281474976710656
 stamps:∀x∈st.az.am,0<=x/\x<=281474976710656
theorem Nj(l:List Int)(hl:l.length<=300):fD (oU 5000 l) (∀x∈l,0<=x/\x<=1099511627776):=by
 simp only[oU];refine ON l (λx=>0<=x/\x<=1099511627776) _ (λh=>h) (λi f hi Q a d=>?_) (λf h=>?_) (by omega)
 ·simp only[cK hi,if_true,bX hi,aw,bT (show i<1000000 by omega),bx,aY,gC,bB]
  grind
 ·simp only[ed,bU,cu];exact qR h
theorem XV{s:a_}{st:bZ}(j:lX s st):fD (oL 5000 s st) (Ms s st):=by
 have l:=j.use;have m:=j.stamps;simp only[oL,dV,zds,aw,if_true];rw[fD,bx];refine ⟨λh=>cX λq=>?_,λh=>?_⟩
 ·simp only[JC,ne_eq] at h;exact h q.len
 ·simp only[JC,ne_eq,Vt] at h;refine (Nj st.gz (by omega)).bind λr k=>?_;rw[bx];refine ⟨λa=>cX λq=>?_,λa=>?_⟩
  ·have:=k.2 q.use
   simp_all
  ·simp only[gV,oT] at a;rw[bx];refine ⟨λd=>cX λq=>?_,λd=>?_⟩
   ·simp only[JC,ne_eq] at d
    grind [Ms.qlen]
   ·simp only[JC,ne_eq,Vt] at d;rw[bx];refine ⟨λe=>cX λq=>?_,λe=>?_⟩
    ·grind [Ms.nodes]
    ·simp only[gV,oT,bK,bB] at e;refine ON st.az.am (λx=>0<=x/\x<=281474976710656) _ (λh=>h.stamps) (λi f hi Q n p=>?_) (λf g=>?_) (by omega)
     ·simp only[cK hi,if_true,bX hi,aw,bT (show i<1000000 by omega),bx,aY,gV,yBC,yBn]
      grind
     ·simp only[ed,bU,cu];exact qR ⟨h,k.1 a,by omega,e,g⟩
theorem ref_use(l:List Int)(n:Int)(hl:l.length<=300):fD (zff 5000 l n) ((l.length:Int)=n/\∀x∈l,0<=x/\x<=1099511627776):=by
 simp only[zff,dV];refine ON l (λx=>0<=x/\x<=1099511627776) _ (λh=>h.2) (λi f hi Q a d=>?_) (λf h=>?_) (by omega)
 ·simp only[cK hi,if_true,bX hi,aw,bT (show i<1000000 by omega),bx,aY,bB]
  grind
 ·simp only[ed,bU,cu,aY,mV]
  simp_all
theorem Kp(x:Int):fD (zbp 5000 x) (0<=x/\x<=281474976710656):=by simp only[zbp,fD,aY,bK,bB,ge_iff_le]
end Go.Plain
end
section
namespace Go.Plain
open Go.Abs
structure dG (l:List bY):Prop where
 ne:0<l.length
 inc:∀i (h:i+1<l.length),l[i].At<l[i+1].At
 each:∀s∈l,(0<=s.At/\s.At<=281474976710656)/\aN s.cw
theorem dG.lt{l:List bY}(h:dG l):∀{i j:Nat}(s:i<j)(u:j<l.length),l[i].At<l[j].At:=by
 intro i j s u;induction j with
 |zero=>omega
 |succ j ih=>
  have x:=h.inc j u
  grind
theorem dG.le{l:List bY}(h:dG l){i j:Nat}(s:i<=j)(x:j<l.length):l[i].At<=l[j].At:=by
 rcases Xd s with u | u
 ·have:=h.lt u x;omega
 simp_all
theorem dG.idx{l:List bY}(h:dG l){i j:Nat}(hi:i<l.length)(u:j<l.length)(e:l[i].At=l[j].At):i=j:=by
 rcases Wx i j with s | s | s
 ·have:=h.lt s u;omega
 ·exact s
 ·have:=h.lt s hi;omega
theorem dG.inj{l:List bY}(h:dG l){a b:bY}(s:a∈l)(hb:b∈l)(e:a.At=b.At):a=b:=by
 obtain ⟨i,hi,rfl⟩:=jV s;obtain ⟨j,u,rfl⟩:=jV hb;have:=h.idx hi u e
 simp_all
def HT(l:List bY):Int:=l.foldl (λ_ s=>s.At) (-1)
theorem yJ{l:List bY}{i:Nat}(h:i<l.length):HT (l.take (i+1))=l[i].At:=by rw[Ib h,HT,List.foldl_append];rfl
def PG(l:List bY)(i:Nat)(s:bY):Prop:=HT (l.take i)<s.At/\s.At<=281474976710656/\aN s.cw
theorem stOk_of{l:List bY}(d:0<l.length)(h:∀i (hi:i<l.length),PG l i l[i]):dG l:=by
 have a:∀i (h:i+1<l.length),l[i].At<l[i+1].At:=λi hi=>by
  have:=(h (i+1) hi).1
  grind [yJ]
 have e:∀i (hi:i<l.length),0<=l[i].At:=by
  intro i;induction i with
  |zero=>intro hi;have:=(h 0 hi).1;grind [HT]
  |succ i ih=>grind
 exact ⟨d,a,DZ (A:=λs=>(0<=s.At/\s.At<=281474976710656)/\aN s.cw) λi hi=>⟨⟨e i hi,(h i hi).2.1⟩,(h i hi).2.2⟩⟩
theorem dG.dg{l:List bY}(h:dG l)(i:Nat)(hi:i<l.length):PG l i l[i]:=by
 have e:=h.each _ (bH hi);refine ⟨?_,e.1.2,e.2⟩
 match i,hi with
 |0,hi=>grind [HT]
 |i+1,hi=>rw[yJ (by omega)];exact h.inc i hi
theorem MM(l:List bY)(hl:l.length<=1000):fD (zer 5000 l) (dG l):=by
 unfold zer;refine jm l.length (λi x=>x=(HT (l.take i),(i:Int))/\∀j (m:j<l.length),j<i->PG l j l[j]) (λi x f hi d n=>?_) (λx f d=>?_) ⟨rfl,λj _ h=>by omega⟩ (by omega)
 ·obtain ⟨rfl,p⟩:=d;simp only[dV];rw[if_pos (cK hi),bX hi,aw,bx];refine ⟨λh=>?_,λh=>?_⟩
  ·rw[if_pos trivial];refine cX λq=>?_;have:=q.dg i hi;simp only[gC,bB] at h;have:=this.1;have:=(q.dg i hi).2.1;omega
  ·refine (Uo _).bind λr a=>?_;rw[bx];refine ⟨λe=>cX λq=>?_,λe=>?_⟩
   ·have:=a.2 (q.dg i hi).2.2
    simp_all
   ·simp only[gV,oT] at e;simp only[gC,bB,not_or] at h;rw[bT (show i<1000000 by omega)];refine n _ ⟨by rw[yJ hi],λj m g=>?_⟩;rcases Xd (yCx.1 g) with k | k
    ·simp_all
    ·subst k;exact ⟨by omega,by omega,a.1 e⟩
 ·obtain ⟨rfl,p⟩:=d;simp only;rw[if_neg (by simp),aY,bB]
  grind [stOk_of,dG.ne]
theorem jF{l:List bY}(hl:l.length<=1000)(h:dG l):zer 5000 l=some true:=by
 obtain ⟨r,e,a⟩:=MM l hl
 simp_all
structure Idx (l:List bY) (t:Int) (k:Nat):Prop where
 le:k<=l.length
 lo:∀i (h:i<l.length),i<k->l[i].At<=t
 hi:∀i (h:i<l.length),k<=i->t<l[i].At
theorem zcY{l:List bY}(hl:l.length<=1000)(hs:dG l)(t:Int):bO (fQ 5000 l t) λr=>∃k,Idx l t k/\r=(k:Int)-1:=by
 unfold fQ;rw[jO];refine lpM (λx=>∃i j:Nat,x=((i:Int),(j:Int))/\i<=j/\j<=l.length/\(∀k (h:k<l.length),k<i->l[k].At<=t)/\(∀k (h:k<l.length),j<=k->t<l[k].At)) (λx=>(x.2-x.1).toNat) (λx f q e=>?_) ⟨0,l.length,rfl,by omega,by omega,λk h hk=>by omega,λk h hk=>by omega⟩ (by omega);obtain ⟨i,j,rfl,s,g,m,n⟩:=q;rw[bx];dsimp only;refine ⟨λh=>?_,λh=>?_⟩
 ·simp only[bB] at h;rw[mid (by omega)];have p:(i+j) / 2<l.length:=by omega
  rw[bX p,aw,aw,bx];refine ⟨λd=>?_,λd=>?_⟩
  ·simp only[gV,yBn] at d;rw[bT (by omega)];refine e _ ⟨(i+j) / 2+1,j,rfl,by omega,g,λk hk a=>?_,n⟩ (by omega);have:=hs.le (show k<=(i+j) / 2 by omega) p;omega
  ·simp only[gV,yBn] at d;refine e _ ⟨i,(i+j) / 2,rfl,by omega,by omega,m,λk hk a=>?_⟩ (by omega);have:=hs.le a hk;omega
 ·simp only[bB] at h;have:i=j:=by omega
  subst this;simp only[aY];exact ⟨i,⟨g,m,n⟩,by grind [wr]⟩
theorem Idx.pos{l:List bY}{t:Int}{k:Nat}(h:Idx l t k)(hs:dG l)(i:(l[0]'hs.ne).At<=t):0<k:=by
 rcases Nat.eq_zero_or_pos k with e | e
 ·subst e;have:=h.hi 0 hs.ne (cM _);omega
 omega
def za(l:List bY)(t:Int)(r:aE):Prop:=∃s∈l,s.At<=t/\(∀a∈l,a.At<=t->a.At<=s.At)/\s.cw=r
theorem za.Cq{l:List bY}(hs:dG l){t:Int}{r j:aE}(h:za l t r)(u:za l t j):r=j:=by obtain ⟨s,x,F,G,rfl⟩:=h;obtain ⟨z,i,A,E,rfl⟩:=u;have:s=z:=hs.inj x i (by grind);rw[this]
theorem za.ok{l:List bY}(hs:dG l){t:Int}{r:aE}(h:za l t r):aN r:=by obtain ⟨s,i,_,_,rfl⟩:=h;exact (hs.each s i).2
theorem Idx.vat{l:List bY}{t:Int}{k:Nat}(h:Idx l t (k+1))(hs:dG l)(hk:k<l.length):za l t l[k].cw:=by
 refine ⟨l[k],bH hk,h.lo k hk (by omega),λj TQ s=>?_,rfl⟩;obtain ⟨i,hi,rfl⟩:=jV TQ;by_cases q:i<=k
 ·exact hs.le q hk
 ·have:=h.hi i hi (by omega);omega
end Go.Plain
end
section
namespace Go.Plain
open Go.Abs
structure GH (L:List aE) (r:aE):Prop where
 le:∀v∈L,∀c,cmp c r<=cmp c v
 dg:∀c,∃v∈L,cmp c v=cmp c r
def uH(a b:aE):aE:={ bF:=if b.bF<a.bF then b.bF else a.bF,Mem:=if b.Mem<a.Mem then b.Mem else a.Mem,bJ:=if b.bJ<a.bJ then b.bJ else a.bJ,bL:=if b.bL<a.bL then b.bL else a.bL }
theorem HH(c:Nat)(a b:aE):cmp c (uH a b)=if cmp c b<cmp c a then cmp c b else cmp c a:=by match c with | 0=>rfl | 1=>rfl | 2=>rfl | _+3=>rfl
theorem Xh(a b:aE):zc6 5000 a b=some (uH a b):=by
 have d:∀x y:Int,zcl 5000 x y=some (if y<x then y else x):=λx y=>by
  unfold zcl
  grind
 simp only[zc6,d,aw,uH]
theorem GH.one(v:aE):GH [v] v:=⟨λw i c=>by simp_all,λc=>⟨v,by simp,rfl⟩⟩
theorem GH.add{L:List aE}{r:aE}(h:GH L r)(v:aE):GH (L++[v]) (uH r v):={
 le:=λw hw c=>by
  rw[HH];rcases mC.1 hw with hw | hw
  ·have:=h.le w hw c;omega
  grind
 dg:=λc=>by
  rw[HH];split
  ·simp_all
  ·obtain ⟨w,hw,e⟩:=h.dg c;grind }
structure PP (V:Int->aE->Prop) (a b:Int) (r:aE):Prop where
 le:∀t v,a<=t->t<b->V t v->∀c,cmp c r<=cmp c v
 dg:∀c,∃t v,a<=t/\t<b/\V t v/\cmp c v=cmp c r
theorem PP.Cq{V:Int->aE->Prop}{a b:Int}{r u:aE}(h:PP V a b r)(x:PP V a b u):r=u:=dW λc=>by obtain ⟨t,v,z,A,E,e⟩:=h.dg c;obtain ⟨F,G,i,j,s,K⟩:=x.dg c;have:=h.le F G i j s c;have:=x.le t v z A E c;omega
theorem PP.iff{V W:Int->aE->Prop}{a b:Int}{r:aE}(h:PP V a b r)(u:∀t v,a<=t->(V t v↔W t v)):PP W a b r:=
 ⟨λt v i j s=>h.le t v i j ((u t v i).2 s),λc=>by obtain ⟨t,v,i,j,s,e⟩:=h.dg c;grind⟩
theorem gu{α:Type}{l:List α}{i:Nat}(h:i<=l.length):slice? l (i:Int) (l.length:Int)=some (l.drop i):=by
 unfold slice?
 simp_all
theorem Mm{l:List bY}(hl:l.length<=1000)(hs:dG l){a b:Int}(y:(l[0]'hs.ne).At<=a)(p:a<b):bO (oS 5000 l a b) (PP (za l) a b):=by
 unfold oS;simp only[dV];rw[jF hl hs,aw,if_neg (by simp)];rw[show (0:Int)=((0:Nat):Int) from rfl,bX hs.ne,aw,if_neg (by simp_all)];refine (zcY hl hs a).bind λr q=>?_;obtain ⟨k,hk,rfl⟩:=q;have S:=hk.pos hs y;have z:=hk.le;obtain ⟨m,rfl⟩:∃m,k=m+1:=⟨k-1,by omega⟩;rw[show ((m+1:Nat):Int)-1=(m:Int) by omega,bX (show m<l.length by omega),aw,bT (by omega),gu (by omega),aw];have fin:∀(n:Nat)(v:aE),n<=(l.drop (m+1)).length->(∀(j:Nat)(h:j<(l.drop (m+1)).length),j<n->(l.drop (m+1))[j].At<b)->(∀(j:Nat)(h:j<(l.drop (m+1)).length),n<=j->b<=(l.drop (m+1))[j].At) ->
   GH (l[m].cw::((l.drop (m+1)).take n).map (·.cw)) v->PP (za l) a b v:=λn v T A U d=>by
  have len:(l.drop (m+1)).length=l.length-(m+1):=yBY ..;refine ⟨λt w W E hw c=>?_,λc=>?_⟩
  ·obtain ⟨s,F,Y,G,rfl⟩:=hw;obtain ⟨i,hi,rfl⟩:=jV F;have Z:=G l[m] (bH _) (by have:=hk.lo m (by omega) (by omega);omega);refine d.le _ ?_ c;by_cases e:i=m
   ·simp_all
   ·have K:m<i:=by
     rcases Wx i m with h | h | h
     ·have:=hs.lt h (by omega);omega
     ·omega
     omega
    have L:i-(m+1)<n:=by grind
    refine pN _ (iS.2 ⟨l[i],?_,rfl⟩)
    grind [List.mem_iff_getElem]
  ·obtain ⟨w,hw,e⟩:=d.dg c;rcases gB.1 hw with rfl | hw
   ·exact ⟨a,_,Py _,p,hk.vat hs (by omega),e⟩
   ·obtain ⟨s,TQ,rfl⟩:=iS.1 hw;obtain ⟨j,g,rfl⟩:=OT.1 TQ;rw[DB] at g;rw[RL] at e TQ;have hb:=A j (by omega) (by omega);rw[yCl] at e hb;have ha:=hk.hi (m+1+j) (by omega) (by omega);refine ⟨l[m+1+j].At,_,by omega,hb,⟨l[m+1+j],bH _,Py _,λs' _ h=>h,rfl⟩,e⟩
 refine jm (l.drop (m+1)).length (λi x=>∃v:aE,x=((i:Int),v.bF,v.Mem,v.bJ,v.bL)/\GH (l[m].cw::((l.drop (m+1)).take i).map (·.cw)) v/\∀j (h:j<(l.drop (m+1)).length),j<i->(l.drop (m+1))[j].At<b) (λi x f hi u q=>?_) (λx f u=>?_)
  ⟨l[m].cw,rfl,GH.one _,λj _ h=>by omega⟩ (by grind)
 ·obtain ⟨v,rfl,d,hb⟩:=u;have M:m+1+i<l.length:=by grind
  dsimp only;rw[if_pos (cK hi),bX hi,aw,bx];refine ⟨λh=>?_,λh=>?_⟩
  ·simp only[bB] at h;rw[aY];refine fin i v (yCv hi) hb (λj g N=>?_) d;rw[yCl] at h ⊢;have:=hs.le (show m+1+i<=m+1+j by omega) (by grind);omega
  ·simp only[bB] at h;rw[show ∀b,Ch 5000 ({ bF:=v.bF,Mem:=v.Mem,bJ:=v.bJ,bL:=v.bL }:aE) b=some (uH v b) from λb=>rfl,aw,bT (show i<1000000 by omega)];refine q _ ⟨uH v (l.drop (m+1))[i].cw,rfl,?_,λj g O=>?_⟩
   ·rw[Ib hi,yCc,<-Jd];exact d.add _
   grind
 ·obtain ⟨v,rfl,d,hb⟩:=u;dsimp only;rw[if_neg (by simp),aY];exact fin _ v (cM _) (λj g h=>hb j g h) (λj g h=>by omega) d
structure Kept (l r:List bY):Prop where
 ok:dG r
 len:r.length<=l.length
 first:∀(h:0<l.length)(h':0<r.length),r[0].At=l[0].At
 sub:∀s∈r,s∈l
 val:∀t v,za l t v->za r t v
theorem d_{l:List bY}{i:Nat}(hi:i<l.length){s:bY}:s∈l.take (i+1)↔s∈l.take i\/s=l[i]:=by rw[Ib hi,mC,Bp]
theorem za.take{l:List bY}{i:Nat}(hi:i<l.length)(hs:dG l){t:Int}{v:aE}(h:za (l.take (i+1)) t v):(l[i].At<=t/\v=l[i].cw)\/(t<l[i].At/\za (l.take i) t v):=by
 obtain ⟨s,x,z,u,rfl⟩:=h;rw[Ib hi] at x u;by_cases q:l[i].At<=t
 ·left;refine ⟨q,?_⟩;have A:=u l[i] (yBB _ (Bp.2 rfl)) q;rcases mC.1 x with h | h
  ·obtain ⟨j,E,rfl⟩:=OT.1 h;rw[DB] at E;rw[RL] at A ⊢;have:=hs.lt (show j<i by omega) hi;omega
  simp_all
 ·right;refine ⟨by omega,s,?_,z,λF G=>u F (yBG _ G),rfl⟩
  grind
theorem stOk_app{l:List bY}(hs:dG l){s:bY}(h:∀x∈l,x.At<s.At)(d:(0<=s.At/\s.At<=281474976710656)/\aN s.cw):dG (l++[s]):=by
 have:=hs.ne;refine ⟨by simp,λi hi=>?_,λx a=>?_⟩
 ·rw[Bv,List.length_singleton] at hi;rw[yCw (show i<l.length by omega)];by_cases e:i+1<l.length
  ·rw[yCw e];exact hs.inc i e
  simp_all
 ·rcases mC.1 a with a | a
  ·exact hs.each x a
  simp_all
theorem OA{l:List bY}(hl:l.length<=1000)(hs:dG l):bO (oQ 5000 l) (Kept l):=by
 have m:=hs.ne;unfold oQ;rw[jF hl hs,aw,if_neg (by simp)];rw[show (0:Int)=((0:Nat):Int) from rfl,bX m,aw];rw[show slice? l 1 (l.length:Int)=some (l.drop 1) from gu m,aw];have N:(l.drop 1).length=l.length-1:=yBY ..;refine jm (l.drop 1).length (λi x=>x.1=(i:Int)/\Kept (l.take (i+1)) x.2/\∃(h:0<x.2.length)(hi:i<l.length),x.2[x.2.length-1].cw=l[i].cw) (λi x f hi r O=>?_) (λx f r=>?_) ?_ (by omega)
 ·obtain ⟨y,a⟩:=x;obtain ⟨rfl,hk,g,z,d⟩:=r;dsimp only at hk g d ⊢;have k:i+1<l.length:=by omega
  have u:=hk.len;rw[DB] at u;have F:(l.drop 1)[i]=l[i+1]:=by simp_all
  simp only[dV];rw[if_pos (cK hi),bX hi,aw,F,wr (x:=(a.length:Int)-1) (by omega) (by omega),show (a.length:Int)-1=((a.length-1:Nat):Int) by omega,bX (show a.length-1<a.length by omega),aw,bT (show i<1000000 by omega),d];have n:∀x∈a,x.At<l[i+1].At:=λx r=>by have:=hk.sub x r;obtain ⟨j,A,rfl⟩:=OT.1 this;rw[DB] at A;rw[RL];exact hs.lt (by omega) k
  rw[bx];refine ⟨λh=>?_,λh=>?_⟩
  ·rw[Cj (by grind),aw];have K:Kept (l.take (i+1+1)) (a++[l[i+1]]):=by
    refine ⟨stOk_app hk.ok n (hs.each _ (bH _)),by grind,λh w=>?_,λs TQ=>?_,λt v p=>?_⟩
    ·have:=hk.first (by grind) g
     simp_all
    ·rcases mC.1 TQ with q | q
     ·exact (d_ k).2 (.inl (hk.sub s q))
     grind [d_]
    ·rcases p.take k hs with ⟨q,rfl⟩ | ⟨q,p⟩
     ·exact ⟨l[i+1],yBB _ (Bp.2 rfl),q,λE w _=>by grind,rfl⟩
     ·obtain ⟨s,G,L,S,M⟩:=hk.val t v p;exact ⟨s,yBG _ G,L,λE w T=>by grind,M⟩
   simp_all
  ·have e:l[i+1].cw=l[i].cw:=by
    simp only[gV,oT] at h;simp only[bY.beq,bK,mV,gK] at h
    simp_all
   have K:Kept (l.take (i+1+1)) a:=by
    refine ⟨hk.ok,by grind,λh w=>?_,λs TQ=>(d_ k).2 (.inl (hk.sub s TQ)),λt v p=>?_⟩
    ·have:=hk.first (by grind) g
     simp_all
    ·rcases p.take k hs with ⟨q,rfl⟩ | ⟨q,p⟩
     ·refine ⟨a[a.length-1],bH _,by grind,λE w _=>?_,by simp_all⟩;obtain ⟨j,A,rfl⟩:=jV w;exact hk.ok.le (by omega) (by omega)
     ·exact hk.val t v p
   simp_all
 ·obtain ⟨y,a⟩:=x;obtain ⟨rfl,hk,g,z,d⟩:=r;dsimp only at hk ⊢;rw[if_neg (by simp),aY]
  grind
 ·have e:l.take 1=[l[0]]:=by grind [List.take_succ_eq_append_getElem]
  refine ⟨rfl,?_,by simp,m,rfl⟩;rw[Qu,e];refine ⟨⟨by simp,λi h=>by simp at h,λs h=>by simp at h;subst h;exact hs.each _ (bH _)⟩,by simp,λ_ _=>rfl,λs h=>h,λt v h=>h⟩
end Go.Plain
end
section
namespace Go.Plain
open Go.Abs
theorem dG.pw{l:List bY}(h:dG l):l.Pairwise λa b=>a.At<b.At:=yBg.2 λi j hi u s=>h.lt s u
theorem stOk_pw{l:List bY}(d:0<l.length)(h:l.Pairwise λa b=>a.At<b.At)(e:∀s∈l,(0<=s.At/\s.At<=281474976710656)/\aN s.cw):dG l:=
 ⟨d,λi hi=>yBg.1 h i (i+1) (by omega) hi (by omega),e⟩
theorem za.ex{l:List bY}(hs:dG l){t:Int}(x:(l[0]'hs.ne).At<=t):∃v,za l t v:=by
 have:∀n,0<n->n<=l.length->∃v,za (l.take n) t v:=by
  intro n;induction n with
  |zero=>omega
  |succ n ih=>
   intro _ K;rcases Nat.eq_zero_or_pos n with rfl | z
   ·refine ⟨l[0].cw,l[0],?_,x,λu i _=>?_,rfl⟩
    ·grind [d_]
    ·rcases (d_ (show 0<l.length by omega)).1 i with i | e
     ·grind
     simp_all
   ·obtain ⟨v,s,A,E,M,F⟩:=ih z (by omega);by_cases q:l[n].At<=t
    ·refine ⟨l[n].cw,l[n],(d_ (by omega)).2 (.inr rfl),q,λu i _=>?_,rfl⟩;rcases (d_ (show n<l.length by omega)).1 i with i | e
     ·obtain ⟨j,G,rfl⟩:=OT.1 i;rw[DB] at G;rw[RL];exact hs.le (by omega) (by omega)
     simp_all
    ·refine ⟨v,s,(d_ (by omega)).2 (.inl A),E,λu i O=>?_,F⟩
     grind [d_]
 have:=this l.length hs.ne (cM _)
 simp_all
theorem insS_ok{l:List bY}(hl:l.length<=2000)(x:bY){k:Nat}(hk:k<=l.length):za0 5000 l [x] (k:Int)=some (l.take k++[x]++l.drop k):=by
 unfold za0 zaE;rw[gu hk,aw,if_neg (by simp)];by_cases e:k=l.length
 ·subst e;rw[if_pos (by simp),Cj (by grind),aw];simp[orE]
 ·rw[if_neg (by grind)];unfold orE ME
  grind
structure CutOk (l:List bY) (t:Int) (r:List bY):Prop where
 ok:dG r
 len:r.length<=l.length+1
 first:∀(h:0<l.length)(h':0<r.length),r[0].At=l[0].At
 val:∀u v,za l u v->za r u v
 dg:∃s∈r,s.At=t
 WD:∀s∈l,s∈r
theorem lQ{l:List bY}(hl:l.length<=1000)(hs:dG l){t:Int}(A:(l[0]'hs.ne).At<=t)(T:t<=281474976710656):bO (qD 5000 l t) (CutOk l t):=by
 unfold qD;refine (zcY hl hs t).bind λr E=>?_;obtain ⟨k,hk,rfl⟩:=E;have U:=hk.pos hs A;have i:=hk.le;obtain ⟨m,rfl⟩:∃m,k=m+1:=⟨k-1,by omega⟩;have d:m<l.length:=by omega
 unfold za5;rw[show ((m+1:Nat):Int)-1=(m:Int) by omega,yI (by omega),aw,bX d,aw,bx];refine ⟨λh=>?_,λh=>?_⟩
 ·simp only[mV] at h;exact aY.2 ⟨hs,by omega,λ_ _=>rfl,λu v h=>h,⟨_,bH d,h⟩,λs h=>h⟩
 ·simp only[mV] at h;have F:=hk.lo m d (by omega);have W:=hs.each _ (bH d);rw[aw,bT (show m<1000000 by omega),insS_ok (by omega) _ i,aw,aY];generalize Y:({ At:=t,cw:=l[m].cw }:bY)=x;have G:x.At=t:=by grind
  have K:x.cw=l[m].cw:=by grind
  have Z:∀s∈l.take (m+1),s.At<t:=λs TQ=>by obtain ⟨j,e,rfl⟩:=OT.1 TQ;rw[DB] at e;rw[RL];have:=hs.le (show j<=m by omega) d;omega
  have hB:∀s∈l.drop (m+1),t<s.At:=λs TQ=>by obtain ⟨j,e,rfl⟩:=OT.1 TQ;rw[yBY] at e;rw[yCl];exact hk.hi _ (by omega) (by omega)
  have n:l=l.take (m+1)++l.drop (m+1):=(Oc ..).symm;have f:=hs.pw;rw[n] at f;obtain ⟨p1,L,p3⟩:=OW.1 f;have mem:∀s,s∈l.take (m+1)++[x]++l.drop (m+1)↔s∈l\/s=x:=λs=>by
   constructor
   ·grind
   grind
  refine ⟨stOk_pw (by grind) (OW.2 ⟨OW.2 ⟨p1,by simp,λa M b hb=>?_⟩,L,λa M b hb=>?_⟩) λs h=>?_,?_,λh p=>?_,λu v N=>?_,⟨x,(mem x).2 (.inr rfl),G⟩,λs h=>(mem s).2 (.inl h)⟩
  ·grind
  ·grind
  ·rcases (mem s).1 h with h | rfl
   ·exact hs.each s h
   grind
  ·grind
  ·grind
  ·obtain ⟨s,g,w,O,rfl⟩:=N;by_cases q:t<=u
   ·have S:=O l[m] (bH d) (by omega);by_cases q2:s.At<t
    ·have:s=l[m]:=by
      obtain ⟨j,e,rfl⟩:=jV g;have:j<=m:=by
       rcases sH m j with h | h
       ·have:=hk.hi j e (by omega);omega
       omega
      have:=hs.le this d;exact hs.inj g (bH d) (by omega)
     subst this;exact ⟨x,(mem x).2 (.inr rfl),by omega,λy p z=>by grind,K⟩
    ·exact ⟨s,(mem s).2 (.inl g),w,λy p z=>by grind,rfl⟩
   ·exact ⟨s,(mem s).2 (.inl g),w,λy p z=>by grind,rfl⟩
theorem Zt:kY=qD:=rfl
def uG(out:List bY)(need:aE)(a hi:Nat):List bY:=out.mapIdx λj s=>if a<=j/\j<hi then { At:=s.At,cw:=fA s.cw need } else s
theorem TS{out:List bY}{need:aE}{a hi:Nat}:(uG out need a hi).length=out.length:=by simp[uG]
theorem kl{out:List bY}{need:aE}{a hi j:Nat}(h:j<(uG out need a hi).length):(uG out need a hi)[j]=if a<=j/\j<hi then { At:=(out[j]'(by grind [TS])).At,cw:=fA (out[j]'(by grind [TS])).cw need } else out[j]'(by grind [TS]):=by grind [uG]
theorem wx{out:List bY}{need:aE}{a hi j:Nat}(h:j<(uG out need a hi).length):(uG out need a hi)[j].At=(out[j]'(by grind [TS])).At:=by grind [kl]
theorem ZB(out:List bY)(need:aE)(a:Nat):uG out need a a=out:=yCq TS λj d e=>by rw[kl,if_neg (by omega)]
theorem Xt{out:List bY}{need:aE}{a i:Nat}(h:a+i<out.length):(uG out need a (a+i)).set (a+i) { At:=out[a+i].At,cw:=fA out[a+i].cw need }=uG out need a (a+(i+1)):=yCq (by simp[TS]) λj d f=>by
 rw[List.getElem_set];split
 ·rename_i e;subst e;rw[kl,if_pos ⟨by omega,by omega⟩]
 ·rw[kl,kl]
  grind
def yj(a b:aE):Prop:=∀c,cmp c a<=cmp c b
theorem subR_ok{a b:aE}(d:aN a)(hb:aN b)(h:yj b a):aN (fA a b):=wB.2 λc=>by have:=wB.1 d c;have:=wB.1 hb c;have:=h c;rw[Dz];omega
structure Pt (l:List bY) (a b:Int) (need:aE) (r:List bY):Prop where
 ok:dG r
 len:r.length<=l.length+2
 first:∀(h:0<l.length)(h':0<r.length),r[0].At=l[0].At
 val:∀t v,za l t v->za r t (if a<=t/\t<b then fA v need else v)
theorem yr{l:List bY}(hl:l.length<=900)(hs:dG l){a b:Int}{need:aE}(L:aN need)(h0:(l[0]'hs.ne).At<=a)(ab:a<b)(hb:b<=281474976710656)
  (u:∀t v,a<=t->t<b->za l t v->yj need v):bO (mZ 5000 l a b need) λr=>r.2=0/\Pt l a b need r.1:=by
 unfold mZ zeg;have w:=hs.ne;obtain ⟨rn,en,M⟩:=Uo need;have:=M.2 L;subst this;simp only[dV];rw[jF (by omega) hs,aw,if_neg (by simp),en,aw,if_neg (by simp)];rw[show (0:Int)=((0:Nat):Int) from rfl,bX w,aw,if_neg (by simp_all),Zt];rw[jO];refine (lQ (by omega) hs h0 (by omega)).bind λo1 c1=>?_;have W:=c1.ok.ne;have f1:=c1.first w W;have l1:=c1.len;refine (lQ (by omega) c1.ok (t:=b) (by omega) hb).bind λout g=>?_;have n2:=g.ok.ne;have f2:=g.first W n2;have l2:=g.len;obtain ⟨sa,N,ad⟩:=c1.dg;obtain ⟨d,m,af⟩:=jV (g.WD sa N);obtain ⟨sb,O,ak⟩:=g.dg;obtain ⟨e,he,eb⟩:=jV O;have aa:out[d].At=a:=by simp_all
 have bb:out[e].At=b:=by simp_all
 have val:∀t v,za l t v->za out t v:=λt v h=>g.val t v (c1.val t v h);have S:∀j (h:j<out.length),a<=out[j].At->out[j].At<b->aN (fA out[j].cw need):=λj h y A=>by obtain ⟨v,E⟩:=za.ex hs (t:=out[j].At) (by omega);have:=(val _ _ E).Cq g.ok ⟨out[j],bH h,Py _,λs' _ h=>h,rfl⟩;subst this;exact subR_ok (E.ok hs) L (u _ _ y A E)
 refine (zcY (by omega) g.ok a).bind λr p=>?_;obtain ⟨k,hk,rfl⟩:=p;have hp:=hk.pos g.ok (by omega);have an:=hk.le;have hm:k=d+1:=by
  rcases Wx k (d+1) with h | h | h
  ·have:=hk.hi d m (by omega);omega
  ·exact h
  ·have:=hk.lo (k-1) (by omega) (by omega);have:=g.ok.lt (show d<k-1 by omega) (by omega);omega
 subst hm;have av:d<e:=by
  rcases Wx d e with h | h | h
  ·exact h
  ·simp_all
  ·have:=g.ok.lt h m;omega
 rw[show ((d+1:Nat):Int)-1=(d:Int) by omega];have mid:∀j (h:j<out.length),d<=j->j<e->a<=out[j].At/\out[j].At<b:=λj h y A=>by have:=g.ok.le y h;have:=g.ok.lt A he;omega
 refine jm (e-d) (λi x=>x=(((d+i:Nat):Int),uG out need d (d+i))) (λi x f hi T p=>?_) (λx f T=>?_) (by rw[Nat.add_zero,ZB]) (by omega)
 ·subst T;have n:d+i<out.length:=by omega
  obtain ⟨y,A⟩:=mid (d+i) n (by omega) (by omega);have F:(uG out need d (d+i))[d+i]'(by grind [TS])=out[d+i]:=by rw[kl,if_neg (by omega)]
  dsimp only;rw[bX (show d+i<(uG out need d (d+i)).length by grind),aw,F,if_pos (by simp_all),aw];refine (XW (g.ok.each _ (bH n)).2 L).bind λr G=>?_;have z:=G.1.2 (S _ n y A);rw[if_neg (by simp[z]),xk,G.2 z,bT (show d+i<1000000 by omega)]
  grind [Xt]
 ·subst T;rw[show d+(e-d)=e by omega];dsimp only;rw[bX (show e<(uG out need d e).length by grind [TS]),xk,wx,if_neg (by simp_all)];have Y:dG (uG out need d e):=by
   refine ⟨by grind [TS],λi h=>?_,λs h=>?_⟩
   ·rw[wx,wx];exact g.ok.inc i (by grind [TS])
   ·obtain ⟨j,n,rfl⟩:=jV h;have K:=n;rw[TS] at K;have ej:=g.ok.each _ (bH K)
    grind [kl]
  refine (OA (by grind [TS]) Y).bind λr p=>?_;rw[aY,aY];have rl:=p.len;rw[TS] at rl;refine ⟨rfl,p.ok,by grind,λh Z=>?_,λt v E=>p.val _ _ ?_⟩
  ·have:=p.first Y.ne Z
   grind [wx]
  ·obtain ⟨s,h1,h2,h3,rfl⟩:=val t v E;obtain ⟨j,n,rfl⟩:=jV h1;have U:j<(uG out need d e).length:=by grind [TS]
   refine ⟨(uG out need d e)[j],bH U,by grind [wx],λs' Z ht=>?_,?_⟩
   ·grind [List.getElem_of_mem,wx]
   ·rw[kl];have ka:a<=t↔d<=j:=by
     constructor
     ·intro h;have:=h3 out[d] (bH m) (by omega);rcases sH j d with q | q
      ·have:=g.ok.lt q m;omega
      omega
     ·intro h;have:=g.ok.le h n;omega
    have kb:t<b↔j<e:=by
     constructor
     ·intro h;rcases sH j e with q | q
      ·exact q
      ·have:=g.ok.le q n;omega
     grind
    grind
end Go.Plain
end
