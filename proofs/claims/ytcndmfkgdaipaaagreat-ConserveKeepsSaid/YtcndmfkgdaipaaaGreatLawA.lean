/- TyP1, TyP2, TyP3, TyP4, TyP5, TyP6, TyP7, TyL1, TyL2, TyL3 -/
import Derived.Test.YtcndmfkgdaipaaaGreatTyPure
import Derived.KernelRfl
import Derived.Laws.BitsLemmas
set_option linter.all false
open Go.IntKind (i64 u64)
section
namespace Go.Plain
open Go.Abs
instance glT:Gl:={ ok:=λ_ _=>True,mono:=λ_ _=>trivial }
theorem wr{x:Int}(a:-9223372036854775808<=x)(d:x<9223372036854775808):i64.wrap x=x:=by rw[IntKind.wrap_i64];omega
theorem bU{i:Nat}(h:i<1000000):i64.wrap ((i:Int)+1)=((i+1:Nat):Int):=by grind [wr]
theorem wp1{i:Nat}(h:i+1<1000000):i64.wrap (((i+1:Nat):Int)-1)=(i:Int):=by grind [wr]
theorem bZ{α:Type}{l:List α}{i:Nat}(h:i<l.length):aB l (i:Int)=some l[i]:=by
 unfold aB
 simp_all
theorem Gm{α:Type}{l:List α}{x:Int}(d:0<=x)(h:x<l.length):∃a:x.toNat<l.length,aB l x=some (l[x.toNat]'a):=by
 have a:x.toNat<l.length:=by omega
 refine ⟨a,?_⟩;unfold aB
 simp_all
theorem cS{i n:Nat}(h:i<n):decide ((i:Int)<(n:Int))=true:=by simp_all
theorem fe{n:Nat}:decide ((n:Int)<(n:Int))=false:=by simp
theorem zq{α:Type}{l m:List α}(h:l.length+m.length<=1000000):cA l m=some (l++m):=by unfold cA;simp_all
theorem FW{α:Type}{m:List α}(h:m.length<=1000000):cA [] m=some m:=by grind [zq]
theorem gB{X R:Type}(r:X->Option R)(b:(X->Option R)->Option R):jn r b=b r:=rfl
def bQ{β:Type}(o:Option β)(Q:β->Prop):Prop:=∃r,o=some r/\Q r
abbrev f_(o:Option Bool)(P:Prop):Prop:=bQ o λb=>b=true↔P
section
variable{α β γ σ:Type}{o:Option α}{P Q:α->Prop}
theorem bQ.mono(h:bQ o P)(i:∀r,P r->Q r):bQ o Q:=by obtain ⟨r,j,s⟩:=h;exact ⟨r,j,i r s⟩
theorem bQ.bind{f:α->Option β}{R:β->Prop}(h:bQ o P)(i:∀r,P r->bQ (f r) R):bQ (o.bind f) R:=by obtain ⟨r,rfl,j⟩:=h;simp_all
theorem a_{r:α}:bQ (some r) Q↔Q r:=by simp[bQ]
theorem kC{f:α->Option β}{R:β->Prop}:bQ (o.bind f) R↔bQ o λr=>bQ (f r) R:=by cases o <;> simp[bQ]
theorem bz{c:Prop}[Decidable c]{a b:Option α}:bQ (if c then a else b) Q↔(c->bQ a Q)/\(¬c->bQ b Q):=by grind
theorem bQ.eq{r:α}(h:bQ o λx=>x=r):o=some r:=by obtain ⟨_,h,rfl⟩:=h;exact h
end
section
variable{X R α:Type}{b:(X->Option R)->X->Option R}{Q:R->Prop}
theorem iS(n:Nat)(Inv:Nat->X->Prop)(hs:∀i x f,i<n->Inv i x->(∀d,Inv (i+1) d->bQ (f d) Q)->bQ (b f x) Q)
  (l:∀x f,Inv n x->bQ (b f x) Q) {g:X} (m:Inv 0 g) {N:Nat} (p:n<N):bQ (bC b N g) Q:=by
 have:∀k i x,i<=n->n<i+k->Inv i x->bQ (bC b k x) Q:=by
  intro k;induction k with
  |zero=>omega
  |succ k ih=>
   intro i x h q j;rcases XX h with a | rfl
   ·exact hs i x _ a j λd e=>ih (i+1) d a (by omega) e
   ·exact l x _ j
 grind
end
section
variable{R α:Type}{b:(Int->Option R)->Int->Option R}{Q:R->Prop}
theorem wV (l:List α) (A:Nat→α→Prop)
  (hs:∀i (f:Int→Option R) (h:i<l.length),(∀j (a:j<l.length),j<i→A j l[j])→(A i l[i]→bQ (f ((i+1:Nat):Int)) Q)→bQ (b f (i:Int)) Q)
  (k:∀f,(∀j (a:j<l.length),A j l[j])→bQ (b f (l.length:Int)) Q) {N:Nat} (d:l.length<N):bQ (bC b N 0) Q:=
 iS l.length (fun i x=>x=(i:Int)∧∀j (a:j<l.length),j<i→A j l[j])
  (fun i x f m ⟨e,g⟩ n=>by
   grind)
  (fun x f ⟨e,g⟩=>by simp_all) ⟨rfl,fun j a h=>absurd h (by omega)⟩ d
end
theorem DF{α:Type}{l:List α}{A:α->Prop}(h:∀j (d:j<l.length),A l[j]):∀a∈l,A a:=λa e=>by grind [List.getElem_of_mem]
theorem Pm{α:Type}{b:(Int->Option Bool)->Int->Option Bool}(l:List α)(A:α->Prop)(P:Prop)(j:P->∀a∈l,A a)
  (hs:∀(i:Nat)(f:Int->Option Bool)(h:i<l.length)(Q:Bool->Prop),(A l[i]->bQ (f ((i+1:Nat):Int)) Q)->(¬A l[i]->Q false)->bQ (b f (i:Int)) Q)
  (d:∀f,(∀a∈l,A a)->f_ (b f (l.length:Int)) P) {N:Nat} (e:l.length<N):f_ (bC b N 0) P:=
 wV l (λ_ a => A a) (λi f h _ g => hs i f h _ g λk => by
   grind)
  (λf h=>d f (DF h)) e
structure mJ (s:bo):Prop where
 nodes:s.am.length<=40
 parts:s.aF.length<=20
 iu:s.aq.length<=20
 part:∀p∈s.aF,p.length<=40
 queue:∀q∈s.aq,q.aO.length<=40
theorem few07(s:bo):bQ (zeX 5000 s) λr=>r=true->mJ s:=by
 simp only[zeX,bz,a_];refine ⟨by simp,λh=>?_⟩;simp only[gF,bA,not_or,Int.not_lt] at h;obtain ⟨⟨g,j⟩,k⟩:=h;refine wV s.aF (λ_ q=>q.length<=40) (λi f h _ a=>?_) (λf d=>?_) (by omega)
 ·simp only[cS h,if_true,bZ h,Option.bind_some,bU (show i<1000000 by omega),bz,a_,bA]
  grind
 ·simp only[fe,b_,cw];refine wV s.aq (λ_ q=>q.aO.length<=40) (λi f h _ a=>?_) (λf e=>?_) (by omega)
  ·simp only[cS h,if_true,bZ h,Option.bind_some,bU (show i<1000000 by omega),bz,a_,bA]
   grind
  ·simp only[fe,b_,cw,a_];exact λ_=>⟨by omega,by omega,by omega,DF d,DF e⟩
theorem few17(l:List aL):bQ (zeT 5000 l) λr=>r=true->l.length<=30/\∀j∈l,j.aI.length<=10:=by
 simp only[zeT,bz,a_];refine ⟨by simp,λh=>?_⟩;simp only[bA] at h;refine wV l (λ_ q=>q.aI.length<=10) (λi f h _ d=>?_) (λf a=>?_) (by omega)
 ·simp only[cS h,if_true,bZ h,Option.bind_some,bU (show i<1000000 by omega),bz,a_,bA]
  grind
 ·simp only[fe,b_,cw,a_];exact λ_=>⟨by omega,DF a⟩
structure lr (s:bo) (st:cz):Prop where
 spec:mJ s
 bg:st.aj.length<=300
 after:∀j∈st.aj,j.aI.length<=10
 cr:st.ai.length<=300
 cu:st.ay.length<=20
 use:st.oF.length<=20
 stamps:st.aG.aq.length<=20
 shares:∀a∈st.ai,a.ae.length<=40
theorem lr.sh{s:bo}{st:cz}(h:lr s st):∀a∈st.ai,a.ae.length<=300:=λa i=>lK (h.shares a i) (by decide)
theorem few23(s:bo)(st:cz):bQ (zcI 5000 s st) λr=>r=true->lr s st:=by
 simp only[zcI,gB];refine (few07 s).bind λr d=>?_;simp only[if_true,a_,bz];refine ⟨by simp,λh=>?_⟩;refine (few17 st.aj).bind λk a=>?_;simp only[iU,pc] at h;have g:=d h;simp only[bz,a_];refine ⟨by simp,λh=>?_⟩;simp only[gF,bA,not_or,Int.not_lt,iU,pc] at h;obtain ⟨⟨⟨⟨h,l⟩,m⟩,n⟩,p⟩:=h;have e:=a h;refine wV st.ai (λ_ q=>q.ae.length<=40) (λi f h _ d=>?_) (λf j=>?_) (by omega)
 ·simp only[cS h,if_true,bZ h,Option.bind_some,bU (show i<1000000 by omega),bz,a_,bA]
  grind
 ·simp only[fe,b_,cw,a_];exact λ_=>⟨g,lK e.1 (by decide),e.2,by omega,by omega,by omega,by omega,DF j⟩
def OP(lo a x:Int):Bool:=decide (lo<=x)&&decide (x<=a)
structure aM (r:aC):Prop where
 FR:0<=r.bP/\r.bP<=1048576
 mem:0<=r.Mem/\r.Mem<=1048576
 Io:0<=r.bS/\r.bS<=1048576
 Jc:0<=r.bT/\r.bT<=1048576
theorem Am(r:aC):f_ (zaV 5000 r) (aM r):=by simp only[zaV,zb8,a_,Option.bind_some,bz,bN,bA,b_,FU,f_];refine ⟨λa=>⟨λd=>⟨λe=>⟨λf=>⟨a,d,e,f⟩,λh=>h.Jc⟩,λe h=>e h.Io⟩,λd h=>d h.mem⟩,λa h=>a h.FR⟩
theorem at4x0{a b c d:Int}:aB [a,b,c,d] 0=some a:=rfl
theorem at4x1{a b c d:Int}:aB [a,b,c,d] 1=some b:=rfl
theorem at4x2{a b c d:Int}:aB [a,b,c,d] 2=some c:=rfl
theorem at4x3{a b c d:Int}:aB [a,b,c,d] 3=some d:=rfl
theorem lpN(l:List Int)(lo d n:Int)(e:(l.length:Int)=n){E:Option Bool}{Q:Bool->Prop}(k:¬(∀a∈l,lo<=a/\a<=d)->Q false)(g:(∀a∈l,lo<=a/\a<=d)->bQ E Q)(j:l.length<5000) :
  bQ (bC (λ(f:Int->Option Bool) (x:Int)=>if (decide (x<n))=true then (aB l x).bind λy=>if ((decide (y<lo)) || (decide (y > d)))=true then some false else f (i64.wrap (x+1)) else E) 5000 0) Q:=by
 subst e;refine wV l (λ_ a=>lo<=a/\a<=d) (λi f h _ m=>?_) (λf h=>?_) j
 ·simp only[cS h,if_true,bZ h,Option.bind_some,bU (show i<1000000 by omega),bz,a_,gF,bA]
  grind
 ·simp only[fe,b_,cw];exact g (DF h)
theorem zK{a b c d lo e:Int}:(∀x∈[a,b,c,d],lo<=x/\x<=e)↔(lo<=a/\a<=e)/\(lo<=b/\b<=e)/\(lo<=c/\c<=e)/\(lo<=d/\d<=e):=by simp
theorem Hu{a b c lo d:Int}:(∀x∈[a,b,c],lo<=x/\x<=d)↔(lo<=a/\a<=d)/\(lo<=b/\b<=d)/\(lo<=c/\c<=d):=by simp
theorem Ut(r:aC):f_ (Od 5000 r) (aM r):=by
 simp only[Od,gn,Option.bind_some];refine lpN [r.bP,r.Mem,r.bS,r.bT] 0 1048576 4 rfl (λh=>?_) (λh=>?_) (by simp)
 ·simp only[b_,FU];exact λv=>h (zK.2 ⟨v.FR,v.mem,v.Io,v.Jc⟩)
 ·rw[a_];obtain ⟨a,d,e,f⟩:=zK.1 h;exact ⟨λ_=>⟨a,d,e,f⟩,λ_=>rfl⟩
def bR:aC:={ bP:=0,Mem:=0,bS:=0,bT:=0 }
theorem iF{a b:aC}:aC.beq a b=true↔a=b:=by obtain ⟨d,e,f,g⟩:=a;obtain ⟨h,i,j,k⟩:=b;simp[aC.beq]
end Go.Plain
end
section
namespace Go.Plain
open Go.Abs
def KV(l:List Int):Nat->Int
 |0=>-1
 |i+1=>l[i]?.getD 0
theorem rk{l:List Int}{i:Nat}(h:i<l.length):KV l (i+1)=l[i]:=by simp[KV,h]
def iY(l:List Int)(n:Int):Prop:=∀i (h:i<l.length),KV l i<l[i]/\l[i]<n
theorem iY.nn{l:List Int}{n:Int}(h:∀i (j:i<l.length),KV l i<l[i]):∀i (j:i<l.length),0<=l[i]:=by
 intro i;induction i with
 |zero=>grind [KV]
 |succ i ih=>grind [rk]
theorem iY.mem{l:List Int}{n:Int}(h:iY l n):∀x∈l,0<=x/\x<n:=λx s=>by obtain ⟨i,j,rfl⟩:=iX s;exact ⟨iY.nn (n:=n) (λi j=>(h i j).1) i j,(h i j).2⟩
theorem ascending(l:List Int)(n:Int)(q:l.length<99):f_ (zeO 5000 l n) (iY l n):=by
 simp only[zeO];refine iS l.length (λi x=>x=(KV l i,(i:Int))/\∀j (e:j<l.length),j<i->KV l j<l[j]/\l[j]<n) (λi x f a d k=>?_) (λx f d=>?_) ⟨rfl,λj e h=>by omega⟩ (by omega)
 ·obtain ⟨rfl,g⟩:=d;simp only[cS a,if_true,bZ a,Option.bind_some,bU (show i<1000000 by omega),bz,a_,gF,bA];refine ⟨λh=>?_,λh=>k _ ⟨by rw[rk a],λj e m=>?_⟩⟩
  ·simp only[b_,FU];intro p;have:=p i a;omega
  grind
 ·obtain ⟨rfl,g⟩:=d;simp only[fe,b_,cw,a_,Rk];exact λi a=>g i a a
theorem Eg(l:List Int)(n:Int)(q:l.length<99):f_ (zcu 5000 l n) (iY l n):=by
 simp only[zcu,gB];refine wV l (λi a=>KV l i<a/\a<n) (λi f h r e=>?_) (λf h=>?_) (by omega)
 ·have hd:decide ((i:Int) > 0)=decide (0<i):=by simp
  simp only[cS h,if_true,bZ h,Option.bind_some,bU (show i<1000000 by omega),bz,a_,bA,hd,b_,cw];have bad:¬(KV l i<l[i]/\l[i]<n)->(False↔iY l n):=λg=>by simp only[FU];exact λd=>g (d i h)
  refine ⟨λj=>?_,λj=>⟨λk=>bad (by omega),λk=>⟨λp=>?_,λp=>?_⟩⟩⟩
  ·simp only[FU];intro d;have:=(d.mem _ (bG h)).1;omega
  ·obtain ⟨m,rfl⟩:∃m,i=m+1:=⟨i-1,by omega⟩;rw[wp1 (show m+1<1000000 by omega),bZ (show m<l.length by omega)];rw[rk (by omega)] at bad e;simp only[Option.bind_some,bz,bA,a_,b_]
   simp_all
  grind [KV]
 ·simp only[fe,b_,cw,a_,Rk];exact h
structure pa (s:bo):Prop where
 lo:1<=s.am.length
 hi:s.am.length<=16
 ok:∀r∈s.am,aM r
theorem QH(s:bo):f_ (fH 5000 s) (pa s):=by
 simp only[fH,bz,a_];refine ⟨λh=>?_,λh=>?_⟩
 ·simp only[gF,bA] at h;simp only[b_,FU]
  grind [pa.lo,pa.hi]
 ·simp only[gF,bA,not_or] at h;refine Pm s.am aM _ (λk=>k.ok) (λi f a Q e g=>?_) (λf d=>?_) (by omega)
  ·simp only[cS a,if_true,bZ a,Option.bind_some,bU (show i<1000000 by omega)];refine (Ut _).bind λr j=>?_;simp only[bz,a_,iU,pc]
   grind
  ·simp only[fe,b_,cw,a_,Rk];exact ⟨by omega,by omega,d⟩
theorem Uo(s:bo)(hs:mJ s):f_ (zcW 5000 s) (pa s):=by
 have:=hs.nodes;simp only[zcW];refine Pm s.am aM _ (λk=>k.ok) (λi f a Q e g=>?_) (λf d=>?_) (by omega)
 ·simp only[cS a,if_true,bZ a,Option.bind_some,bU (show i<1000000 by omega)];refine (Am _).bind λr j=>?_;simp only[bz,a_,iU,pc]
  grind
 ·simp only[fe,b_,cw,Be,Option.bind_some,a_,bN,bA];exact ⟨λh=>⟨by omega,by omega,d⟩,λh=>by grind [pa.lo,pa.hi]⟩
structure oN (s:bo):Prop where
 lo:1<=s.aF.length
 hi:s.aF.length<=8
 ok:∀p∈s.aF,1<=p.length/\iY p s.am.length
theorem QA(s:bo)(hs:mJ s):f_ (fL 5000 s) (oN s):=by
 simp only[fL,gB,bz,a_];refine ⟨λh=>?_,λh=>?_⟩
 ·simp only[gF,bA] at h;simp only[b_,FU]
  grind [oN.lo,oN.hi]
 ·simp only[gF,bA,not_or] at h;refine Pm s.aF (λp=>1<=p.length/\iY p s.am.length) _ (λk=>k.ok) (λi f a Q j d=>?_) (λf g=>?_) (by omega)
  ·have:=hs.part _ (bG a);simp only[cS a,if_true,bZ a,Option.bind_some,bU (show i<1000000 by omega),bz,a_,bA];refine ⟨λe=>d (by omega),λe=>?_⟩;refine (ascending _ _ (by omega)).bind λr l=>?_;simp only[bz,a_,iU,pc]
   grind
  ·simp only[fe,b_,cw,a_,Rk];exact ⟨by omega,by omega,g⟩
theorem TE(s:bo)(hs:mJ s):f_ (zcO 5000 s) (oN s):=by
 have:=hs.parts;simp only[zcO,gB];refine Pm s.aF (λp=>1<=p.length/\iY p s.am.length) _ (λk=>k.ok) (λi f a Q j d=>?_) (λf g=>?_) (by omega)
 ·have:=hs.part _ (bG a);simp only[cS a,if_true,bZ a,Option.bind_some,bU (show i<1000000 by omega),bz,a_,bA];refine ⟨λe=>d (by omega),λe=>?_⟩;refine (Eg _ _ (by omega)).bind λr l=>?_;simp only[bz,a_,iU,pc]
  grind
 ·simp only[fe,b_,cw,Be,Option.bind_some,a_,bN,bA];exact ⟨λh=>⟨by omega,by omega,g⟩,λh=>by grind [oN.lo,oN.hi]⟩
structure As (s:bo) (q:AY):Prop where
 part:0<=q.Part/\q.Part<s.aF.length
 AX:iY q.aO s.aO
 bg:1<=q.jM/\q.jM<=256
 run:1<=q.nN/\q.nN<=256
 user:1<=q.iI/\q.iI<=256
 qos:0<=q.eR/\q.eR<=100
structure qW (s:bo):Prop where
 lo:1<=s.aq.length
 hi:s.aq.length<=8
 ok:∀q∈s.aq,As s q
theorem Ny(s:bo)(hs:mJ s):f_ (zeY 5000 s) (qW s):=by
 simp only[zeY,gB,bz,a_];refine ⟨λh=>?_,λh=>?_⟩
 ·simp only[gF,bA] at h;simp only[b_,FU]
  grind [qW.lo,qW.hi]
 ·simp only[gF,bA,not_or] at h;refine Pm s.aq (As s) _ (λk=>k.ok) (λi f a Q l d=>?_) (λf m=>?_) (by omega)
  ·have:=hs.queue _ (bG a);simp only[cS a,if_true,bZ a,Option.bind_some,bU (show i<1000000 by omega),b_,cw];rw[bz];refine ⟨λe=>?_,λe=>?_⟩
   ·simp only[gF,bA] at e;rw[a_];exact d λk=>by have:=k.part;omega
   ·simp only[gF,bA,not_or] at e;refine (ascending _ _ (by omega)).bind λr n=>?_;rw[bz];refine ⟨λg=>?_,λg=>?_⟩
    ·grind [a_,As.AX]
    ·simp only[iU,pc] at g;refine lpN [_,_,_] 1 256 3 rfl (λp=>d λk=>p (Hu.2 ⟨k.bg,k.run,k.user⟩)) (λq=>?_) (by simp);obtain ⟨t,u,v⟩:=Hu.1 q;rw[bz];refine ⟨λj=>?_,λj=>?_⟩
     ·simp only[gF,bA] at j;rw[a_];exact d λk=>by have:=k.qos;omega
     ·simp only[gF,bA,not_or] at j;exact l ⟨by omega,n.1 g,t,u,v,by omega⟩
  ·simp only[fe,b_,cw,a_,Rk];exact ⟨by omega,by omega,m⟩
theorem QX(s:bo)(hs:mJ s):f_ (zcy 5000 s) (qW s):=by
 have:=hs.iu;simp only[zcy,gB];refine Pm s.aq (As s) _ (λk=>k.ok) (λi f d Q j a=>?_) (λf l=>?_) (by omega)
 ·have:=hs.queue _ (bG d);simp only[cS d,if_true,bZ d,Option.bind_some,bU (show i<1000000 by omega),b_,cw];rw[bz];refine ⟨λe=>?_,λe=>?_⟩
  ·simp only[gF,bA] at e;rw[a_];exact a λk=>by have:=k.part;omega
  ·simp only[gF,bA,not_or] at e;refine (Eg _ _ (by omega)).bind λr m=>?_;simp only[Be,Option.bind_some,bz,a_,iU,pc,bN,bA,yB6,yBh];refine ⟨λg=>a λk=>by grind [As.AX],λg=>⟨λn=>a λk=>by have:=k.bg;omega,λn=>⟨λp=>a λk=>by have:=k.run;omega,λp=>⟨λq=>a λk=>by have:=k.user;omega,λq=>⟨λt=>a λk=>by have:=k.qos;omega,λt=>?_⟩⟩⟩⟩⟩;exact j ⟨by omega,m.1 g,by omega,by omega,by omega,by omega⟩
 ·simp only[fe,b_,cw,Be,Option.bind_some,a_,bN,bA];exact ⟨λh=>⟨by omega,by omega,l⟩,λh=>by have:=h.lo;have:=h.hi;omega⟩
structure Bi (w:HN):Prop where
 age:0<=w.jb/\w.jb<=1000
 size:0<=w.cH/\w.cH<=1000
 qos:0<=w.eR/\w.eR<=1000
 share:0<=w.bB/\w.bB<=1000
theorem IS(w:HN):f_ (zew 5000 w) (Bi w):=by
 simp only[zew];refine lpN [w.jb,w.cH,w.eR,w.bB] 0 1000 4 rfl (λh=>?_) (λh=>?_) (by simp)
 ·simp only[b_,FU];exact λv=>h (zK.2 ⟨v.age,v.size,v.qos,v.share⟩)
 ·rw[a_];obtain ⟨a,d,e,f⟩:=zK.1 h;exact ⟨λ_=>⟨a,d,e,f⟩,λ_=>rfl⟩
structure bp (s:bo):Prop where
 nodes:pa s
 parts:oN s
 AX:1<=s.aO/\s.aO<=8
 iu:qW s
 weights:Bi s.ah
 decay:1<=s.bJ/\s.bJ<=16
 mode:s.Mode=1∨s.Mode=2
 bg:1<=s.aj/\s.aj<=256
 ids:1<=s.gU/\s.gU<=1048576
 vW:1<=s.aE/\s.aE<=65536
 Xc:0<=s.aW/\s.aW<=65536
 keep:1<=s.cP/\s.cP<=16
 OP:1<=s.In/\s.In<=8
 out:1<=s.Out/\s.Out<=16
 cache:0<=s.bI/\s.bI<=16
theorem rA(s:bo)(hs:mJ s):f_ (QU 5000 s) (bp s):=by
 simp only[QU,Br];obtain ⟨N,z,m⟩:=QH s;obtain ⟨O,A,n⟩:=QA s hs;obtain ⟨S,E,q⟩:=Ny s hs;obtain ⟨U,F,r⟩:=IS s.ah;simp only[z,A,E,F,Option.bind_some];have T:∀(x:ByteArray),x.toList≠[]->(¬bp s)->bQ ((some x).bind λa=>some (a.toList == (⟨#[]⟩:ByteArray).toList)) λb=>b=true↔bp s:=λx G W=>by
  rw[aD,a_]
  simp_all
 have step:∀(c:Bool)(x:ByteArray)(o:Option ByteArray),x.toList.isEmpty=false->(c=false->¬bp s)->(c=true->bQ (o.bind λa=>some (a.toList == (⟨#[]⟩:ByteArray).toList)) λb=>b=true↔bp s) ->
   bQ ((if (!c)=true then some x else o).bind λa=>some (a.toList == (⟨#[]⟩:ByteArray).toList)) λb=>b=true↔bp s:=λc x o G m n=>by
  grind
 have nb:∀{b:Bool}{p:Prop},(b=true↔p)->b=false->¬p:=λh e Y=>by simp_all
 refine step _ _ _ (by kernel_rfl) (λe k=>nb m e k.nodes) λc1=>?_;refine step _ _ _ (by kernel_rfl) (λe k=>nb n e k.parts) λK=>?_;refine step _ _ _ (by kernel_rfl) (λe k=>by grind [bp.AX]) λt=>?_;refine step _ _ _ (by kernel_rfl) (λe k=>nb q e k.iu) λL=>?_;refine step _ _ _ (by kernel_rfl) (λe k=>nb r e k.weights) λM=>?_;refine step _ _ _ (by kernel_rfl) (λe k=>by grind [bp.decay]) λu=>?_;refine step _ _ _ (by kernel_rfl) (λe k=>by grind [bp.mode]) λv=>?_;refine step _ _ _ (by kernel_rfl) (λe k=>by grind [bp.bg]) λw=>?_;refine step _ _ _ (by kernel_rfl) (λe k=>by grind [bp.ids]) λy=>?_;refine step _ _ _ (by kernel_rfl) (λe k=>by grind [bp.vW]) λd=>?_;refine step _ _ _ (by kernel_rfl) (λe k=>by grind [bp.Xc]) λf=>?_;refine step _ _ _ (by kernel_rfl) (λe k=>by grind [bp.keep]) λg=>?_;refine step _ _ _ (by kernel_rfl) (λe k=>by grind [bp.OP]) λi=>?_;refine step _ _ _ (by kernel_rfl) (λe k=>by grind [bp.out]) λj=>?_;refine step _ _ _ (by kernel_rfl) (λe k=>by grind [bp.cache]) λl=>?_;rw[aD,a_];simp only[yBY,Rk];simp only[bN,gF,bA,nB] at t u v w y d f g i j l;exact ⟨m.1 c1,n.1 K,t,q.1 L,r.1 M,u,v,w,y,d,f,g,i,j,l⟩
theorem Ni{n:Nat}(hN:15<n){s:bo}{g j m:Bool}(T:zcW n s=some g)(F:g=true↔pa s)(U:zcO n s=some j)(G:j=true↔oN s)(W:zcy n s=some m)(K:m=true↔qW s):f_ (zcL n s) (bp s):=by
 simp only[zcL,h_,T,U,W,Option.bind_some,Be,gB];have d:∀w:Bool,(w=true↔Bi s.ah)->∀(L:List Bool)(M:List ByteArray),L=[g,j,decide (1<=s.aO)&&decide (s.aO<=8),m,w,decide (1<=s.bJ)&&decide (s.bJ<=16),decide (1<=s.Mode)&&decide (s.Mode<=2),decide (1<=s.aj)&&decide (s.aj<=256),decide (1<=s.gU)&&decide (s.gU<=1048576),decide (1<=s.aE)&&decide (s.aE<=65536),decide (0<=s.aW)&&decide (s.aW<=65536),decide (1<=s.cP)&&decide (s.cP<=16),decide (1<=s.In)&&decide (s.In<=8),decide (1<=s.Out)&&decide (s.Out<=16),decide (0<=s.bI)&&decide (s.bI<=16)] ->
   (∀x∈M,x.toList≠[])->M.length=15 ->
   bQ ((bC (λ(p:Int->Option ByteArray) (e:Int)=>if (decide (e<15))=true then (aB L e).bind λq=>if (!q)=true then (aB M e).bind λr=>some r else p (i64.wrap (e+1)) else some (⟨#[]⟩:ByteArray)) n 0).bind λY=>some (Y.toList == (⟨#[]⟩:ByteArray).toList)) λb=>b=true↔bp s:=by
  intro w N L M Z hM O;have S:L.length=15:=by simp_all
  have t:(15:Int)=(L.length:Int):=by omega
  have all:(∀x∈L,x=true)↔bp s:=by
   rw[Z];simp only[gq,KY,KU,forall_eq_or_imp,forall_eq,bN,bA];constructor
   ·rintro ⟨c1,c2,c3,c4,c5,c6,c7,c8,c9,u,v,y,z,A,E⟩;exact ⟨F.1 c1,G.1 c2,c3,K.1 c4,N.1 c5,c6,by omega,c8,c9,u,v,y,z,A,E⟩
   ·intro k;have:=k.mode;exact ⟨F.2 k.nodes,G.2 k.parts,k.AX,K.2 k.iu,N.2 k.weights,k.decay,by omega,k.bg,k.ids,k.vW,k.Xc,k.keep,k.OP,k.out,k.cache⟩
  rw[kC,t];have nil:(⟨#[]⟩:ByteArray).toList=[]:=by kernel_rfl
  refine wV L (λ_ x=>x=true) (λi f h _ hr=>?_) (λf hA=>?_) (by omega)
  ·simp only[cS h,if_true,bZ h,bZ (l:=M) (show i<M.length by omega),Option.bind_some,bU (show i<1000000 by omega),bz,a_,iU,pc,nil,nB] at hr ⊢
   grind [List.getElem_mem]
  ·simp only[fe,b_,cw,a_,yBY,Rk];exact all.1 (DF hA)
 have a:∀x∈([(⟨#[78,111,100,101,115]⟩:ByteArray),(⟨#[80,97,114,116,115]⟩:ByteArray),(⟨#[85,115,101,114,115]⟩:ByteArray),(⟨#[81,117,101,117,101,115]⟩:ByteArray),(⟨#[87,101,105,103,104,116,115]⟩:ByteArray),(⟨#[68,101,99,97,121]⟩:ByteArray),(⟨#[77,111,100,101]⟩:ByteArray),(⟨#[74,111,98,115]⟩:ByteArray),(⟨#[73,100,115]⟩:ByteArray),(⟨#[86,101,114,115,105,111,110,115]⟩:ByteArray),(⟨#[76,105,110,103,101,114]⟩:ByteArray),(⟨#[75,101,101,112]⟩:ByteArray),(⟨#[73,110]⟩:ByteArray),(⟨#[79,117,116]⟩:ByteArray),(⟨#[67,97,99,104,101]⟩:ByteArray)]:List ByteArray),x.toList≠[]:=by simp_all
 split
 ·rename_i w1;split
  ·rename_i w2;split
   ·rename_i w3;refine d _ ?_ _ _ rfl a rfl;simp only[bN,bA] at w1 w2 w3 ⊢;exact ⟨λw4=>⟨w1,w2,w3,w4⟩,λk=>k.share⟩
   ·rename_i w3;refine d _ ?_ _ _ rfl a rfl;simp only[bN,bA] at w3;simp only[b_,FU];exact λk=>w3 k.qos
  ·rename_i w2;refine d _ ?_ _ _ rfl a rfl;simp only[bN,bA] at w2;simp only[b_,FU];exact λk=>w2 k.size
 ·rename_i w1;refine d _ ?_ _ _ rfl a rfl;simp only[bN,bA] at w1;simp only[b_,FU];exact λk=>w1 k.age
theorem UT(s:bo)(hs:mJ s):f_ (zcL 5000 s) (bp s):=by
 obtain ⟨a,d,e⟩:=Uo s hs;obtain ⟨f,g,h⟩:=TE s hs;obtain ⟨i,j,k⟩:=QX s hs
 grind [Ni]
end Go.Plain
end
section
namespace Go.Plain
open Go.Abs
structure BM (L:List (Int×Int)) (k:Int):Prop where
 lo:0<=k
 hi:k<=64
 fit:∀p∈L,k * p.2<=p.1
 max:k<64->∃p∈L,p.1<(k+1) * p.2
theorem BM.BG{L:List (Int×Int)}{k i:Int}(u:∀p∈L,0<=p.2)(h:BM L k)(E:BM L i):k=i:=by
 have x:∀{a b:Int},BM L a->BM L b->¬a<b:=λ{a b} z j A=>by obtain ⟨p,s,F⟩:=z.max (by have:=j.hi;omega);have G:=j.fit p s;have K:(a+1) * p.2<=b * p.2:=yAO (by omega) (u p s);omega
 grind
theorem BM.nil:BM [] 64:=⟨by omega,by omega,by simp,by simp⟩
def qm(n a b:Int):Int:=if b > 0 then (if a.tdiv b<n then a.tdiv b else n) else n
theorem BM.step{L:List (Int×Int)}{k a b:Int}(h:BM L k)(z:∀p∈L,0<=p.2)(s:0<=a)(K:0<=b):BM (L++[(a,b)]) (qm k a b):=by
 unfold qm;have u:=h.lo;have x:=h.hi;split
 ·rename_i j;rw[Int.tdiv_eq_ediv_of_nonneg s];have M:a / b * b<=a:=Int.ediv_mul_le a (by omega);have A:a<(a / b+1) * b:=Int.lt_ediv_add_one_mul_self a j;have E:0<=a / b:=Int.ediv_nonneg s (by omega);split
  ·rename_i F;refine ⟨E,by omega,λp i=>?_,λ_=>⟨(a,b),by simp,A⟩⟩;rcases gp.1 i with i | i
   ·have:=h.fit p i;have:a / b * p.2<=k * p.2:=yAO (by omega) (z p i);omega
   simp_all
  ·rename_i G;refine ⟨u,x,λp i=>?_,λhk=>?_⟩
   ·rcases gp.1 i with i | i
    ·exact h.fit p i
    ·simp only[zi] at i;subst i;have:k * b<=a / b * b:=yAO (by omega) (by omega)
     grind
   ·obtain ⟨p,i,q⟩:=h.max hk
    grind
 ·rename_i j;have:b=0:=by omega
  subst this;refine ⟨u,x,λp i=>?_,λhk=>?_⟩
  ·rcases gp.1 i with i | i
   ·exact h.fit p i
   simp_all
  ·obtain ⟨p,i,q⟩:=h.max hk
   grind
theorem Ph{n a b:Int}(h:b > 0):qm n a b=if a.tdiv b<n then a.tdiv b else n:=by unfold qm;omega
theorem OQ{n a b:Int}(h:¬b > 0):qm n a b=n:=by unfold qm;omega
def Fv(a b:aC):List (Int×Int):=[(a.bP,b.bP),(a.Mem,b.Mem),(a.bS,b.bS),(a.bT,b.bT)]
def cG(a b:aC):Int:=qm (qm (qm (qm 64 a.bP b.bP) a.Mem b.Mem) a.bS b.bS) a.bT b.bT
theorem se{a b:aC}(e:aM a)(d:aM b):BM (Fv a b) (cG a b):=by have f:=BM.nil;have g:=f.step (by simp) e.FR.1 d.FR.1;have h:=g.step (by simp;exact d.FR.1) e.mem.1 d.mem.1;have i:=h.step (by simp;exact ⟨d.FR.1,d.mem.1⟩) e.Io.1 d.Io.1;have j:=i.step (by simp;exact ⟨d.FR.1,d.mem.1,d.Io.1⟩) e.Jc.1 d.Jc.1;exact j
theorem w1:i64.wrap (0+1)=1:=rfl
theorem w2:i64.wrap (1+1)=2:=rfl
theorem w3:i64.wrap (2+1)=3:=rfl
theorem w4:i64.wrap (3+1)=4:=rfl
theorem wq{a b:Int}(d:0<=a/\a<=1048576)(e:0<b):Oq .i64 a b=some (a.tdiv b):=by
 unfold Oq;rw[if_neg (by omega)];have f:0<=a / b:=Int.ediv_nonneg d.1 (by omega);have g:a / b<=a:=Int.ediv_le_self b d.1
 grind [wr]
def stc(a b:aC):Nat->Int
 |0=>64
 |1=>qm 64 a.bP b.bP
 |2=>qm (qm 64 a.bP b.bP) a.Mem b.Mem
 |3=>qm (qm (qm 64 a.bP b.bP) a.Mem b.Mem) a.bS b.bS
 |_=>cG a b
theorem count{a b:aC}(g:aM a)(h:aM b)(q:b≠bR):mB 5000 a b=some (cG a b):=by
 obtain ⟨r,j,k⟩:=Ut a;obtain ⟨s,l,m⟩:=Ut b;have n:=k.2 g;have p:=m.2 h;subst n p;have d:aC.beq b bR=false:=by grind [iF]
 simp only[mB,gB,j,l,Option.bind_some,OK,b_,cw,Bool.false_or,gn];change (if aC.beq b bR=true then some 0 else _)=_;rw[d];simp only[b_,cw];refine bQ.eq (iS 4 (λi x=>x=(stc a b i,(i:Int))) (λi x f t e u=>?_) (λx f e=>?_) rfl (by omega))
 ·subst e;rcases (show i=0∨i=1∨i=2∨i=3 by omega) with rfl | rfl | rfl | rfl
  ·rw[show ((0:Nat):Int)=0 from rfl];simp only[show decide ((0:Int)<4)=true from rfl,if_true,at4x0,Option.bind_some,w1,bz,bA]
   grind [stc,qm,wq,aM.FR]
  ·rw[show ((1:Nat):Int)=1 from rfl];simp only[show decide ((1:Int)<4)=true from rfl,if_true,at4x1,Option.bind_some,w2,bz,bA]
   grind [stc,OQ,wq,aM.mem,Ph]
  ·rw[show ((2:Nat):Int)=2 from rfl];simp only[show decide ((2:Int)<4)=true from rfl,if_true,at4x2,Option.bind_some,w3,bz,bA]
   grind [stc,OQ,wq,aM.Io,Ph]
  ·rw[show ((3:Nat):Int)=3 from rfl];simp only[show decide ((3:Int)<4)=true from rfl,if_true,at4x3,Option.bind_some,w4,bz,bA]
   grind [stc,cG,OQ,wq,aM.Jc,Ph]
 ·subst e;simp only[show decide (((4:Nat):Int)<4)=false from rfl,b_,cw,a_];rfl
theorem Ha{b:aC}(a:aM b):QJ 5000 b bR=some (decide (b=bR)):=by
 simp only[QJ,au];have:=a.FR;have:=a.mem;have:=a.Io;have:=a.Jc;rw[Bool.eq_iff_iff];simp only[bN,bA];obtain ⟨d,e,f,g⟩:=b
 grind [bR]
theorem BA{a b:aC}(j:aM a)(e:aM b)(z:b≠bR):zbz 5000 a b=some (cG a b):=by
 obtain ⟨W,A,u⟩:=Am a;obtain ⟨Y,E,v⟩:=Am b;have F:=u.2 j;have G:=v.2 e;subst F G;simp only[zbz,gB,A,E,Option.bind_some,OK,b_,cw];have K:QJ 5000 b ({ bP:=0,Mem:=0,bS:=0,bT:=0 }:aC)=some (decide (b=bR)):=Ha e;rw[K];simp only[Option.bind_some,z,decide_false,b_,cw];have Z:=j.FR;have hm:=j.mem;have hg:=j.Io;have hl:=j.Jc;have m:=e.FR;have n:=e.mem;have q:=e.Io;have r:=e.Jc;have L:∀p∈Fv a b,0<=p.2:=by
  intro p g;simp only[Fv,gq,KY,KU] at g;rcases g with rfl | rfl | rfl | rfl
  ·omega
  ·omega
  ·omega
  omega
 have done:∀k:Int,BM (Fv a b) k->k=cG a b:=λk hk=>hk.BG L (se j e);have d:∀{i:Nat}{y:Int},i<=65->0<=y/\y<=1048576->0<=(i:Int) * y/\(i:Int) * y<=68157440:=λ{i y} M w=>by have u:0<=(i:Int) * y:=yBO (by omega) w.1;have v:(i:Int) * y<=65 * y:=yAO (by omega) w.1;omega
 refine bQ.eq (iS 64 (λi x=>x=((i:Int),((i+1:Nat):Int) * b.bP,((i+1:Nat):Int) * b.Mem,((i+1:Nat):Int) * b.bS,((i+1:Nat):Int) * b.bT)/\∀p∈Fv a b,(i:Int) * p.2<=p.1) (λi x f M s N=>?_) (λx f s=>?_) ⟨by simp,λp g=>?_⟩ (by omega))
 ·obtain ⟨rfl,t⟩:=s;have m1:=d (i:=i+1) (by omega) m;have m2:=d (i:=i+1) (by omega) n;have m3:=d (i:=i+1) (by omega) q;have m4:=d (i:=i+1) (by omega) r;have l:∀y:Int,((i+1:Nat):Int) * y+y=((i+1+1:Nat):Int) * y:=λy=>by
   grind
  simp only[show decide ((i:Int)<64)=true by grind,if_true,QJ,Option.bind_some,YH,bz,a_,bN,bA,bU (show i<1000000 by omega)];rw[wr (by omega) (by omega),wr (by omega) (by omega),wr (by omega) (by omega),wr (by omega) (by omega),l,l,l,l];refine ⟨λh=>N _ ⟨rfl,λp g=>?_⟩,λh=>done _ ⟨by omega,by omega,t,λ_=>?_⟩⟩
  ·simp only[Fv,gq,KY,KU] at g;rcases g with rfl | rfl | rfl | rfl
   ·simp_all
   ·simp_all
   ·simp_all
   simp_all
  ·rw[show ((i:Int)+1)=((i+1:Nat):Int) by omega];by_cases O:a.bP<((i+1:Nat):Int) * b.bP
   ·exact ⟨(a.bP,b.bP),by simp[Fv],O⟩
   by_cases S:a.Mem<((i+1:Nat):Int) * b.Mem
   ·exact ⟨(a.Mem,b.Mem),by simp[Fv],S⟩
   by_cases T:a.bS<((i+1:Nat):Int) * b.bS
   ·exact ⟨(a.bS,b.bS),by simp[Fv],T⟩
   by_cases U:a.bT<((i+1:Nat):Int) * b.bT
   ·exact ⟨(a.bT,b.bT),by simp[Fv],U⟩
   omega
 ·obtain ⟨rfl,t⟩:=s;simp only[show decide (((64:Nat):Int)<64)=false from rfl,b_,cw,a_];exact done _ ⟨by omega,by omega,t,λh=>by omega⟩
 ·simp only[Fv,gq,KY,KU] at g
  grind
def Cp(s:bo)(l:List Int)(need:aC):Int:=(l.map λn=>cG ((s.am[n.toNat]?).getD bR) need).sum
theorem Qn{a b:aC}(d:aM a)(e:aM b):0<=cG a b/\cG a b<=64:=⟨(se d e).lo,(se d e).hi⟩
theorem G_{s:bo}{need:aC}(k:bp s)(p:aM need)(F:need≠bR){l:List Int}(G:l.length<=300)(r:iY l s.am.length)(C:aC->Option Int)(t:∀a,aM a->C a=some (cG a need)) :
  bC (λ(u:Int×Int->Option Int) (g:Int×Int)=>if (decide (g.2<(l.length:Int)))=true then (aB l g.2).bind λv=>(aB s.am v).bind λw=>(C w).bind λz=>u ((i64.wrap (g.1+z)),(i64.wrap (g.2+1))) else some g.1) 5000 (0,0)=some (Cp s l need):=by
 have A:∀(m:List Int),(∀x∈m,x∈l)->0<=Cp s m need/\Cp s m need<=64 * m.length:=by
  intro m;induction m with
  |nil=>grind [Cp]
  |cons x m ih=>
   intro h;have K:=ih λy E=>h y (lI _ E);have q:=r.mem x (h x (ql ..));have d:x.toNat<s.am.length:=by omega
   have:=Qn (k.nodes.ok (s.am[x.toNat]) (bG d)) p
   grind [Cp]
 refine bQ.eq (iS l.length (λi x=>x=(Cp s (l.take i) need,(i:Int))) (λi x f j d n=>?_) (λx f d=>?_) (by grind) (by omega))
 ·subst d;have q:=r.mem l[i] (bG j);obtain ⟨d,e⟩:=Gm q.1 q.2;have c:=Qn (k.nodes.ok (s.am[l[i].toNat]) (bG d)) p;have b:=A (l.take i) λx d=>OH d;have L:((l.take i).length:Int)<=300:=by grind
  simp only[cS j,if_true,bZ j,Option.bind_some,e,t _ (k.nodes.ok _ (bG d)),bU (show i<1000000 by omega)];rw[wr (by omega) (by omega)];refine n _ ?_;congr 1;rw[DC j];simp only[Cp,Yb,ru,List.map_nil,List.sum_append,List.sum_cons,List.sum_nil,eS d,Option.getD_some];omega
 ·subst d;simp only[fe,b_,cw,a_,uj]
theorem Sq{s:bo}(hs:mJ s)(k:bp s){q m:Int}{need:aC}(d:aM need)(f:need≠bR):∃b,jD 5000 s q m need=some b/\zc8 5000 s q m need=some b:=by
 obtain ⟨v,h,r⟩:=rA s hs;have t:=r.2 k;subst t;by_cases j:0<=q/\q<s.aq.length/\1<=m
 ·obtain ⟨u,e⟩:=Gm j.1 j.2.1;have g:=k.iu.ok _ (bG u);obtain ⟨l,n⟩:=Gm g.part.1 g.part.2;have p:=k.parts.ok _ (bG l);have lp:=hs.part _ (bG l);refine ⟨decide (Cp s (s.aF[s.aq[q.toNat].Part.toNat]) need≥m),?_,?_⟩
  ·simp only[jD,h,Option.bind_some];rw[if_neg (by simp_all),e,aD];simp only[Bv,h,Option.bind_some];rw[if_neg (by have:=g.part;simp;omega),n,aD];have:=G_ k d f (lK lp (by decide)) p.2 (λa=>mB 5000 a need) (λa i=>count i d f);rw[this,aD]
  ·simp only[zc8];rw[if_pos (by simp_all),e,aD];simp only[gP];rw[if_neg (by have:=g.part;simp_all)];simp only[n,Option.bind_some];have:=G_ k d f (lK lp (by decide)) p.2 (λa=>zbz 5000 a need) (λa i=>BA i d f);rw[this,aD]
 ·refine ⟨false,?_,?_⟩
  ·simp only[jD,h,Option.bind_some]
   grind
  ·simp only[zc8]
   grind
end Go.Plain
end
section
namespace Go.Plain
open Go.Abs
structure zQ (j:aL):Prop where
 st:1<=j.State/\j.State<=6
 start:j.Start≠0->3<=j.State
 fin:j.End≠0->5<=j.State
 ok:j.Ok=true->j.State=4∨j.State=5
 kill:j.dD=true->j.State=4∨j.State=6
structure gy (j:aL):Prop where
 id:1<=j.Id/\j.Id<=1048576
 user:0<=j.c_/\j.c_<=7
 queue:0<=j.Queue/\j.Queue<=7
 many:1<=j.aK/\j.aK<=64
 need:aM j.az
 nU:j.az≠bR
 wall:1<=j.aU/\j.aU<=65536
 ny:j.aI.length<=4
 after:∀d∈j.aI,1<=d.bj/\d.bj<=j.Id-1
 version:1<=j.aQ/\j.aQ<=281474976710656
 born:0<=j.dF/\j.dF<=1099511627776
 start:0<=j.Start/\j.Start<=1099511627776
 fin:0<=j.End/\j.End<=1099511627776
 arr:0<=j.Array/\j.Array<=j.Id
 state:zQ j
theorem name_ok(x:Int):bQ (wi 5000 x) λr=>r.toList=[]↔¬(1<=x/\x<=6):=by
 simp only[wi,bz,a_,nB];have e:(⟨#[]⟩:ByteArray).toList=[]:=by kernel_rfl
 refine ⟨λh=>?_,λa=>⟨λh=>?_,λd=>⟨λh=>?_,λf=>⟨λh=>?_,λg=>⟨λh=>?_,λi=>⟨λh=>?_,λj=>?_⟩⟩⟩⟩⟩⟩
 ·simp_all
 ·simp_all
 ·simp_all
 ·simp_all
 ·simp_all
 ·simp_all
 grind
theorem NS(j:aL):f_ (gH 5000 j) (zQ j):=by
 have e:(⟨#[]⟩:ByteArray).toList=[]:=by kernel_rfl
 simp only[gH,gB];refine (name_ok j.State).bind λr i=>?_;have no:∀{p:Prop},¬p->(false=true↔p):=λh=>by simp[h]
 rw[bz];refine ⟨λh=>?_,λh=>?_⟩
 ·rw[a_];simp only[e,nB] at h;exact no λk=>i.1 h k.st
 ·simp only[e,nB] at h;have hs:1<=j.State/\j.State<=6:=yBX λl=>h (i.2 l);simp only[jH,VU,Option.bind_some,b_,cw];have fin:∀Q:Prop,(Q↔((j.Ok=true->j.State=4∨j.State=5)/\(j.dD=true->j.State=4∨j.State=6)->zQ j)/\True)->True:=λ_ _=>trivial;have a:(j.Start≠0->3<=j.State)->(j.End≠0->5<=j.State)->bQ (if ((j.Ok&&(j.State != 4))&&(j.State != 5))=true then some false else if ((j.dD&&(j.State != 4))&&(j.State != 6))=true then some false else some true) λb=>b=true↔zQ j:=λf m=>by
   simp only[bz,a_,bN,JP,ne_eq];refine ⟨λq=>no λk=>by have:=k.ok q.1.1;omega,λn=>⟨λq=>no λk=>by have:=k.kill q.1.1;omega,λd=>?_⟩⟩;simp only[Rk];refine ⟨hs,f,m,λo=>?_,λo=>?_⟩
   ·grind
   grind
  have mid:(j.Start≠0->3<=j.State)->bQ (if (j.End != 0)=true then (if (!((j.State == 5) || (j.State == 6)))=true then some false else if ((j.Ok&&(j.State != 4))&&(j.State != 5))=true then some false else if ((j.dD&&(j.State != 4))&&(j.State != 6))=true then some false else some true) else if ((j.Ok&&(j.State != 4))&&(j.State != 5))=true then some false else if ((j.dD&&(j.State != 4))&&(j.State != 6))=true then some false else some true) λb=>b=true↔zQ j:=λf=>by
   rw[bz];refine ⟨λq=>?_,λq=>a f λg=>absurd g (by simp_all)⟩;rw[bz];refine ⟨λd=>?_,λd=>a f λ_=>?_⟩
   ·rw[a_];simp only[JP,ne_eq,iU,Bool.or_eq_false_iff,beq_eq_false_iff_ne] at q d;exact no λk=>by have:=k.fin q;omega
   grind [Bool.or_eq_false_iff]
  rw[bz];refine ⟨λq=>?_,λq=>mid λg=>absurd g (by simp_all)⟩;rw[bz];refine ⟨λd=>?_,λd=>mid λ_=>?_⟩
  ·rw[a_];simp only[JP,ne_eq,gF,nB] at q d;exact no λk=>by have:=k.start q;omega
  grind
theorem Bx(j:aL):f_ (zeK 5000 j) (gy j):=by
 have no:∀{p:Prop},¬p->bQ (some false) (λb=>b=true↔p):=λh=>by rw[a_];simp[h]
 simp only[zeK,OL,Option.bind_some];have a:∀{l m x:Int}{o:Option Bool}{P:Prop},(P->l<=x/\x<=m)->(l<=x/\x<=m->bQ o λb=>b=true↔P)->bQ (if (decide (l<=x)&&decide (x<=m))=true then o else some false) λb=>b=true↔P:=λv n=>by rw[bz];simp only[bN,bA];exact ⟨λh=>n h,λh=>no λp=>h (v p)⟩
 refine a (λk=>k.id) λc1=>a (λk=>k.user) λE=>a (λk=>k.queue) λF=>a (λk=>k.many) λG=>?_;refine (Ut j.az).bind λr w=>?_;rw[bz];refine ⟨λh=>?_,λh=>no λk=>h ?_⟩
 rotate_left
 ·have O:aC.beq j.az bR=false:=by
   grind [iF,gy.nU]
  rw[w.2 k.need];change (true&&!(aC.beq j.az bR))=true
  simp_all
 simp only[bN,iU] at h;have K:=w.1 h.1;have q:j.az≠bR:=λe=>by
  have n:aC.beq j.az bR=false:=h.2
  grind [iF]
 refine a (λk=>k.wall) λL=>?_;have g:f_ (gK 5000 j) (j.aI.length<=4/\∀d∈j.aI,1<=d.bj/\d.bj<=j.Id-1):=by
  simp only[gK,bz,a_,OL,Option.bind_some];refine ⟨λh=>?_,λh=>?_⟩
  ·grind
  ·simp only[bA] at h;refine Pm j.aI (λd=>1<=d.bj/\d.bj<=j.Id-1) _ (λk=>k.2) (λi f y Q v n=>?_) (λf S=>?_) (by omega)
   ·simp only[cS y,if_true,bZ y,Option.bind_some,bU (show i<1000000 by omega),bz,a_,iU,yB6,yBh]
    grind [wr]
   ·simp only[fe,b_,cw,a_,Rk]
    grind
 refine g.bind λT z=>?_;rw[bz];refine ⟨λh=>?_,λh=>no λk=>h (z.2 ⟨k.ny,k.after⟩)⟩;have A:=z.1 h;refine a (λk=>k.version) λM=>a (λk=>k.born) λN=>a (λk=>k.start) λs=>a (λk=>k.fin) λt=>a (λk=>k.arr) λu=>?_;refine (NS j).bind λrs hs=>?_;rw[a_,hs];exact ⟨λk=>⟨c1,E,F,G,K,q,L,A.1,A.2,M,N,s,t,u,k⟩,λk=>k.state⟩
theorem GB(j:aL)(z:j.aI.length<=10):f_ (zdJ 5000 j) (gy j):=by
 simp only[zdJ,gB,Rr,Option.bind_some];refine Pm j.aI (λd=>1<=d.bj/\d.bj<=i64.wrap (j.Id-1)) _ (λk d hd=>by have:=k.after d hd;have:=k.id;grind [wr]) (λi f a Q e A=>?_) (λf E=>?_) (by omega)
 ·simp only[cS a,if_true,bZ a,Option.bind_some,bU (show i<1000000 by omega),bz,a_,iU,yB6,yBh]
  grind
 ·simp only[fe,b_,cw];obtain ⟨F,g,e⟩:=Am j.az;simp only[g,Option.bind_some];have no:∀{p:Prop},¬p->(False↔p):=λh=>by simp[h]
  simp only[if_true,cw,bz,a_,bA,iU,yB6,yBh,bN,b_,pc,JP,ne_eq,gF,nB];refine ⟨λc=>no λk=>by grind [gy.ny],λG=>⟨λc=>no λk=>by have:=k.id;omega,λc1=>⟨λc=>no λk=>by have:=k.user;omega,λK=>⟨λc=>no λk=>by have:=k.queue;omega,λL=>⟨λc=>no λk=>by have:=k.many;omega,λM=>⟨λc=>no λk=>(by grind [gy.need]),λl=>?_⟩⟩⟩⟩⟩⟩;have v:=e.1 l;have m:QJ 5000 j.az ({ bP:=0,Mem:=0,bS:=0,bT:=0 }:aC)=some (decide (j.az=bR)):=Ha v;simp only[if_true,cw,m,Option.bind_some,bz,a_,bA,iU,yB6,yBh,bN,b_,pc,JP,ne_eq,gF,nB];refine ⟨λc=>no λk=>k.nU c,λn=>⟨λc=>no λk=>by have:=k.wall;omega,λN=>⟨λc=>no λk=>by have:=k.state.st;omega,λO=>⟨λc=>no λk=>by have:=k.version;omega,λS=>⟨λc=>no λk=>by have:=k.arr;omega,λq=>⟨λc=>no λk=>by have:=k.born;omega,λr=>⟨λc=>no λk=>by have:=k.start;omega,λs=>⟨λc=>no λk=>by have:=k.fin;omega,λt=>⟨λc=>no λk=>by have:=k.state.start;omega,λu=>⟨λc=>no λk=>by have:=k.state.fin;omega,λw=>⟨λx=>?_,λc=>no λk=>c ?_⟩⟩⟩⟩⟩⟩⟩⟩⟩⟩⟩
  ·constructor
   ·intro y;refine ⟨by omega,by omega,by omega,by omega,v,n,by omega,by omega,λd hd=>?_,by omega,by omega,by omega,by omega,by omega,⟨by omega,by omega,by omega,λo=>?_,λo=>?_⟩⟩
    ·grind [wr]
    ·simp_all
    simp_all
   ·intro k;cases hk:j.dD with
    |false=>simp_all
    |true=>
     rcases k.state.kill hk with c | c
     ·omega
     omega
  ·cases hk:j.Ok with
   |false=>simp_all
   |true=>
    rcases k.state.ok hk with c | c
    ·omega
    omega
end Go.Plain
end
section
namespace Go.Plain
open Go.Abs
section
variable{X R:Type}{b:(X->Option R)->X->Option R}{Q:R->Prop}
theorem lpM(I:X->Prop)(m:X->Nat)(hs:∀x f,I x->(∀d,I d->m d<m x->bQ (f d) Q)->bQ (b f x) Q){a:X}(g:I a){N:Nat}(i:m a<N):bQ (bC b N a) Q:=by
 induction N generalizing a with
 |zero=>omega
 |succ N ih=>exact hs a _ g λd e h=>ih e (by omega)
end
theorem mid{i j:Nat}(h:i+j<1000000):i64.wrap (Int.fdiv (u64.wrap (i64.wrap ((i:Int)+(j:Int)))) (2 ^ 1))=(((i+j) / 2:Nat):Int):=by
 rw[wr (x:=(i:Int)+(j:Int)) (by omega) (by omega)]
 grind [Go.IntKind.wrap,Go.IntKind.bits]
def cf(l:List aL):Prop:=∀i (h:i+1<l.length),l[i].Id<l[i+1].Id
theorem cf.lt{l:List aL}(h:cf l):∀{i j:Nat}(s:i<j)(u:j<l.length),l[i].Id<l[j].Id:=by
 intro i j s u;induction j with
 |zero=>omega
 |succ j ih=>
  have x:=h j u
  grind
theorem cf.inj{l:List aL}(h:cf l){i j:Nat}(u:i<l.length)(x:j<l.length)(e:l[i].Id=l[j].Id):i=j:=by
 rcases VV i j with s | s | s
 ·have:=h.lt s x;omega
 ·exact s
 ·have:=h.lt s u;omega
structure At (l:List aL) (id:Int) (r:Int):Prop where
 lo:0<=r
 hi:r.toNat<l.length
 is:l[r.toNat].Id=id
theorem At.mem{l:List aL}{id r:Int}(h:At l id r):∃j∈l,j.Id=id:=⟨l[r.toNat]'h.hi,bG _,h.is⟩
theorem At.BG{l:List aL}{id r i:Int}(hs:cf l)(h:At l id r)(j:At l id i):r=i:=by have:=hs.inj h.hi j.hi (by grind [At.is]);have:=h.lo;have:=j.lo;omega
theorem half{l:List aL}(v:l.length<=300)(hs:cf l)(id:Int){R:Type}{Q:R->Prop}(C:aL->Option Bool)(n:∀j∈l,C j=some (decide (j.Id<id)))(E:Int->Option R)
  (w:∀i:Nat,i<=l.length->(∀k (h:k<l.length),k<i->l[k].Id<id)->(∀k (h:k<l.length),i<=k->id<=l[k].Id)->bQ (E (i:Int)) Q) :
  ∀ (b : (Int × Int -> Option R) -> Int × Int -> Option R), (∀ f x, b f x = if decide (x.1 < x.2) = true then (aB l (i64.wrap (Int.fdiv (u64.wrap (i64.wrap (x.1 + x.2))) (2 ^ 1)))).bind λa => (C a).bind λc => if c = true then f ((i64.wrap ((i64.wrap (Int.fdiv (u64.wrap (i64.wrap (x.1 + x.2))) (2 ^ 1))) + 1)), x.2) else f (x.1, (i64.wrap (Int.fdiv (u64.wrap (i64.wrap (x.1 + x.2))) (2 ^ 1)))) else E x.1) ->
   bQ (bC b 5000 (0,(l.length:Int))) Q:=by
 intro b p;refine lpM (λx=>∃i j:Nat,x=((i:Int),(j:Int))/\i<=j/\j<=l.length/\(∀k (h:k<l.length),k<i->l[k].Id<id)/\(∀k (h:k<l.length),j<=k->id<=l[k].Id)) (λx=>(x.2-x.1).toNat) (λx f r m=>?_) ⟨0,l.length,rfl,by omega,by omega,λk h hk=>by omega,λk h hk=>by omega⟩ (by omega);obtain ⟨i,j,rfl,y,s,t,u⟩:=r;rw[p,bz];dsimp only;refine ⟨λh=>?_,λh=>?_⟩
 ·simp only[bA] at h;rw[mid (by omega)];have e:(i+j) / 2<l.length:=by omega
  rw[bZ e,aD,n _ (bG e),aD,bz];refine ⟨λg=>?_,λg=>?_⟩
  ·simp only[bA] at g;rw[bU (by omega)];refine m _ ⟨(i+j) / 2+1,j,rfl,by omega,s,λk hk d=>?_,u⟩ (by omega);rcases XX (yCf.1 d) with q | q
   ·have:=hs.lt q e;omega
   simp_all
  ·simp only[bA] at g;refine m _ ⟨i,(i+j) / 2,rfl,by omega,by omega,t,λk hk d=>?_⟩ (by omega);rcases XX d with q | q
   ·have:=hs.lt q hk;omega
   simp_all
 ·simp only[bA] at h;have:i=j:=by omega
  simp_all
theorem Tn{l:List aL}(m:l.length<=300)(hs:cf l){id:Int}(n:0<=id/\id<=1048576)(g:∀j∈l,0<=j.Id/\j.Id<=1048576):bQ (nz 5000 l id) λr=>(r.2=true↔∃j∈l,j.Id=id)/\(r.2=true->At l id r.1):=by
 simp only[nz,zay];rw[kC];refine half m hs id (λj=>some (decide (i64.wrap (j.Id-id)<0))) (λj d=>?_) (λi=>if (decide (i<(l.length:Int)))=true then (aB l i).bind λp=>(iB 5000 p id).bind λs=>some (i,(s == 0)) else some (i,false)) (λi t u v=>?_) _ (λf x=>rfl)
 ·have:=g j d;rw[wr (by omega) (by omega)]
  grind
 ·rw[bz];refine ⟨λh=>?_,λh=>?_⟩
  ·simp only[bA] at h;have a:i<l.length:=by omega
   have:=g _ (bG a);rw[bZ a,aD];simp only[iB,Option.bind_some,a_,nB];rw[wr (by omega) (by omega)];refine ⟨⟨λe=>⟨_,bG a,by omega⟩,λ⟨j,d,e⟩=>?_⟩,λe=>⟨by omega,by omega,by grind⟩⟩;obtain ⟨k,hk,rfl⟩:=iX d;rcases VV k i with q | q | q
   ·grind
   ·simp_all
   ·have:=hs.lt q hk;grind
  ·simp only[bA] at h;simp only[a_,b_,FU,false_implies,Oa]
   grind [List.getElem_of_mem]
theorem zM{l:List aL}(g:l.length<=300)(id:Int):bQ (Wj 5000 l id) λr=>(0<=r↔∃j∈l,j.Id=id)/\(0<=r->At l id r)/\(r<0->r=-1):=by
 simp only[Wj];refine wV l (λ_ j=>j.Id≠id) (λi f h _ a=>?_) (λf h=>?_) (by omega)
 ·simp only[cS h,if_true,bZ h,Option.bind_some,bU (show i<1000000 by omega),bz,a_,nB];exact ⟨λe=>⟨⟨λ_=>⟨_,bG h,e⟩,λ_=>by omega⟩,λ_=>⟨by omega,by omega,by simp_all⟩,λh=>by omega⟩,λe=>a e⟩
 ·simp only[fe,b_,cw,a_];refine ⟨⟨λh=>by omega,λ⟨j,d,e⟩=>absurd e (DF (A:=λj=>j.Id≠id) h j d)⟩,λh=>by omega,λ_=>trivial⟩
structure Dw (l:List cU) (n:Int) (i:Nat) (x:cU):Prop where
 up:KV (l.map (·.Node)) i<x.Node
 lt:x.Node<n
 lo:1<=x.aK
 hi:x.aK<=64
def bn(l:List cU)(n:Int):Prop:=∀i (h:i<l.length),Dw l n i l[i]
theorem bn.node{l:List cU}{n:Int}(h:bn l n):iY (l.map (·.Node)) n:=λi j=>by rw[wj] at j;rw[Kk];exact ⟨(h i j).up,(h i j).lt⟩
theorem bn.mem{l:List cU}{n:Int}(h:bn l n):∀x∈l,0<=x.Node/\x.Node<n/\1<=x.aK/\x.aK<=64:=λx j=>by have s:=h.node.mem x.Node (gD.2 ⟨x,j,rfl⟩);obtain ⟨i,z,rfl⟩:=iX j;have u:=h i z;exact ⟨s.1,s.2,u.lo,u.hi⟩
theorem rD{l:List cU}{i:Nat}(h:i<l.length):KV (l.map (·.Node)) (i+1)=l[i].Node:=by grind [rk]
theorem oX(l:List cU)(n:Int)(s:l.length<=300):f_ (zd9 5000 l n) (bn l n):=by
 simp only[zd9];refine iS l.length (λi x=>x=(KV (l.map (·.Node)) i,(i:Int))/\∀j (g:j<l.length),j<i->Dw l n j l[j]) (λi x f a d p=>?_) (λx f d=>?_) ⟨rfl,λj g h=>by omega⟩ (by omega)
 ·obtain ⟨rfl,k⟩:=d;simp only[cS a,if_true,bZ a,Option.bind_some,bU (show i<1000000 by omega),bz,a_,gF,bA];refine ⟨λh=>?_,λh=>p _ ⟨by rw[rD a],λj g e=>?_⟩⟩
  ·simp only[b_,FU];intro r;have q:=r i a;have t:=q.up;have u:=q.lt;have v:=q.lo;have w:=q.hi;omega
  ·rcases XX (yCf.1 e) with m | m
   ·simp_all
   ·subst m;exact ⟨by omega,by omega,by omega,by omega⟩
 ·obtain ⟨rfl,k⟩:=d;simp only[fe,b_,cw,a_,Rk];exact λi a=>k i a a
theorem HW(l:List cU)(n:Int)(u:l.length<=300):f_ (zby 5000 l n) (bn l n):=by
 simp only[zby,gB];refine wV l (λi a=>Dw l n i a) (λi f h v e=>?_) (λf h=>?_) (by omega)
 ·have hd:decide ((i:Int) > 0)=decide (0<i):=by simp
  simp only[cS h,if_true,bZ h,Option.bind_some,bU (show i<1000000 by omega),bz,a_,bA,hd,b_,cw];have bad:¬(Dw l n i l[i])->(False↔bn l n):=λg=>by simp only[FU];exact λd=>g (d i h)
  refine ⟨λj=>?_,λj=>⟨λp=>bad λk=>by have:=k.lt;omega,λp=>⟨λq=>bad λk=>by have:=k.lo;omega,λq=>⟨λr=>bad λk=>by have:=k.hi;omega,λr=>⟨λs=>?_,λs=>?_⟩⟩⟩⟩⟩
  ·simp only[FU];intro d;have:=(d.mem _ (bG h)).1;omega
  ·obtain ⟨m,rfl⟩:∃m,i=m+1:=⟨i-1,by omega⟩;rw[wp1 (show m+1<1000000 by omega),bZ (show m<l.length by omega)];simp only[Option.bind_some,bz,bA,a_,b_];exact ⟨λt=>bad λk=>by have:=k.up;grind [rD],λt=>e ⟨by grind [rD],by omega,by omega,by omega⟩⟩
  ·have:i=0:=by omega
   subst this;exact e ⟨by grind [KV],by omega,by omega,by omega⟩
 ·simp only[fe,b_,cw,a_,Rk];exact h
def lU(l:List cU):Int:=(l.map (·.aK)).sum
theorem WU{l:List cU}(h:∀x∈l,1<=x.aK/\x.aK<=64):0<=lU l/\lU l<=64 * l.length:=by
 induction l with
 |nil=>simp[lU]
 |cons x l ih=>
  have:=ih λy a=>h y (lI _ a)
  grind [lU]
theorem Nj{l:List cU}{i:Nat}(h:i<l.length):lU (l.take (i+1))=lU (l.take i)+l[i].aK:=by grind [List.take_succ_eq_append_getElem,lU]
theorem Ot{l:List cU}{n:Int}(g:l.length<=300)(h:bn l n):oY 5000 l=some (lU l):=by
 simp only[oY];refine bQ.eq (iS l.length (λi x=>x=(lU (l.take i),(i:Int))) (λi x f d a j=>?_) (λx f a=>?_) (by simp[lU]) (by omega))
 ·subst a;have q:=h.mem _ (bG d);have b:=WU (l:=l.take i) λx a=>(h.mem x (OH a)).2.2;have k:((l.take i).length:Int)<=300:=by rw[BY];omega
  have e:zcn 5000 l[i].aK 0 64=some l[i].aK:=by
   simp only[zcn]
   grind
  simp only[cS d,if_true,bZ d,Option.bind_some,e,bU (show i<1000000 by omega)]
  grind [wr,Nj]
 ·subst a;simp only[fe,b_,cw,a_,uj]
theorem VT{l:List cU}{n:Int}(e:l.length<=300)(h:bn l n):zdI 5000 l=some (lU l):=by
 simp only[zdI,gB];refine bQ.eq (iS l.length (λi x=>x=(lU (l.take i),(i:Int))) (λi x f d a g=>?_) (λx f a=>?_) (by simp[lU]) (by omega))
 ·subst a;have q:=h.mem _ (bG d);have b:=WU (l:=l.take i) λx a=>(h.mem x (OH a)).2.2;have j:((l.take i).length:Int)<=300:=by grind
  simp only[cS d,if_true,bZ d,Option.bind_some,bU (show i<1000000 by omega)];rw[if_neg (by simp_all),if_pos (by grind),wr (by omega) (by omega)]
  grind [Nj]
 ·subst a;simp only[fe,b_,cw,a_,uj]
theorem LL(l:List Int)(g:l.length<=300)(x:Int):f_ (zb9 5000 l x) (x∈l):=by
 simp only[f_,zb9,zd8];rw[kC];refine wV l (λ_ y=>x≠y) (λi f h _ a=>?_) (λf h=>?_) (by omega)
 ·simp only[cS h,if_true,bZ h,Option.bind_some,bU (show i<1000000 by omega),bz,nB];refine ⟨λe=>?_,λe=>a e⟩;simp only[a_,bA]
  simp_all
 ·simp only[fe,b_,cw,a_,bA];exact ⟨λh=>by omega,λd=>absurd rfl (DF (A:=λy=>x≠y) h x d)⟩
theorem ref_has(l:List Int)(d:l.length<=300)(x:Int):f_ (zeW 5000 l x) (x∈l):=by
 simp only[zeW];refine wV l (λ_ y=>y≠x) (λi f h _ e=>?_) (λf h=>?_) (by omega)
 ·simp only[cS h,if_true,bZ h,Option.bind_some,bU (show i<1000000 by omega),bz,nB,a_,Rk]
  grind
 ·simp only[fe,b_,cw,a_,FU];exact λa=>absurd rfl (DF (A:=λy=>y≠x) h x a)
structure lV (s:bo) (j:aL) (l:List cU):Prop where
 shares:bn l s.am.length
 Wb:lU l=j.aK
 q:0<=j.Queue/\j.Queue<s.aq.length
 part:∀x∈l,x.Node∈(s.aF[((s.aq[j.Queue.toNat]?).getD default).Part.toNat]?).getD []
theorem LI{s:bo}(hs:mJ s)(k:bp s)(j:aL)(l:List cU)(g:l.length<=300):f_ (ze1 5000 s j l) (lV s j l):=by
 have no:∀{p:Prop},¬p->bQ (some false) (λb=>b=true↔p):=λh=>by rw[a_];simp[h]
 simp only[ze1,gB];refine (oX l _ g).bind λr m=>?_;rw[bz];refine ⟨λh=>?_,λh=>?_⟩
 ·simp only[if_true];exact no λk=>by grind [lV.shares]
 ·simp only[iU,pc] at h;have S:=m.1 h;rw[Ot g S,aD,bz];refine ⟨λt=>no λk=>by grind [lV.Wb],λt=>?_⟩;have u:lU l=j.aK:=by simp_all
  rw[bz];refine ⟨λv=>no λk=>by have:=k.q;grind,λv=>?_⟩;have a:0<=j.Queue/\j.Queue<s.aq.length:=by simp_all
  obtain ⟨d,e⟩:=Gm a.1 a.2;have n:=k.iu.ok _ (bG d);obtain ⟨w,y⟩:=Gm n.part.1 n.part.2;have lp:=hs.part _ (bG w);have z:(s.aF[((s.aq[j.Queue.toNat]?).getD default).Part.toNat]?).getD []=s.aF[s.aq[j.Queue.toNat].Part.toNat]:=by simp_all
  rw[e,aD,y,aD];refine Pm l (λx=>x.Node∈s.aF[s.aq[j.Queue.toNat].Part.toNat]) _ (λk x d=>by rw[<-z];exact k.part x d) (λi f q Q A E=>?_) (λf F=>?_) (by omega)
  ·simp only[cS q,if_true,bZ q,Option.bind_some,bU (show i<1000000 by omega)];refine (LL _ (lK lp (by decide)) _).bind λr m=>?_;simp only[bz,a_,iU,pc]
   grind
  ·simp only[fe,b_,cw,a_,Rk];exact ⟨S,u,a,by simp_all⟩
theorem Xa{s:bo}(hs:mJ s)(k:bp s)(j:aL)(l:List cU)(g:l.length<=300):f_ (zem 5000 s j l) (lV s j l):=by
 have no:∀{p:Prop},¬p->bQ (some false) (λb=>b=true↔p):=λh=>by rw[a_];simp[h]
 simp only[zem,gB];refine (HW l _ g).bind λr m=>?_;rw[bz];refine ⟨λh=>?_,λh=>?_⟩
 ·simp only[if_true];exact no λk=>by grind [lV.shares]
 ·simp only[iU,pc] at h;have S:=m.1 h;rw[VT g S,aD,bz];refine ⟨λu=>no λk=>by have:=k.Wb;have:=k.q;grind,λu=>?_⟩;have n:lU l=j.aK/\0<=j.Queue/\j.Queue<s.aq.length:=by simp_all
  have a:=n.2;obtain ⟨d,e⟩:=Gm a.1 a.2;have q:=k.iu.ok _ (bG d);obtain ⟨v,w⟩:=Gm q.part.1 q.part.2;have lp:=hs.part _ (bG v);have y:(s.aF[((s.aq[j.Queue.toNat]?).getD default).Part.toNat]?).getD []=s.aF[s.aq[j.Queue.toNat].Part.toNat]:=by simp_all
  rw[e,aD,w,aD];refine Pm l (λx=>x.Node∈s.aF[s.aq[j.Queue.toNat].Part.toNat]) _ (λk x d=>by rw[<-y];exact k.part x d) (λi f t Q z A=>?_) (λf E=>?_) (by omega)
  ·simp only[cS t,if_true,bZ t,Option.bind_some,bU (show i<1000000 by omega)];refine (ref_has _ (lK lp (by decide)) _).bind λr m=>?_;simp only[bz,a_,iU,pc]
   grind
  ·simp only[fe,b_,cw,a_,Rk];exact ⟨S,n.1,a,by simp_all⟩
end Go.Plain
end
section
namespace Go.Plain
open Go.Abs
def cmp:Nat->aC->Int
 |0,r=>r.bP
 |1,r=>r.Mem
 |2,r=>r.bS
 |_,r=>r.bT
theorem vC{r:aC}:aM r↔∀c,0<=cmp c r/\cmp c r<=1048576:=by
 constructor
 ·intro h c
  match c with
  |0=>exact h.FR
  |1=>exact h.mem
  |2=>exact h.Io
  |_+3=>exact h.Jc
 ·intro h;exact ⟨h 0,h 1,h 2,h 3⟩
theorem dY{a b:aC}(h:∀c,cmp c a=cmp c b):a=b:=by
 obtain ⟨d,e,f,g⟩:=a;obtain ⟨i,j,k,l⟩:=b;have m:=h 0;have n:=h 1;have p:=h 2;have q:=h 3
 grind [cmp]
def fG(a b:aC):aC:={ bP:=a.bP-b.bP,Mem:=a.Mem-b.Mem,bS:=a.bS-b.bS,bT:=a.bT-b.bT }
def BP(a b:aC):aC:={ bP:=a.bP+b.bP,Mem:=a.Mem+b.Mem,bS:=a.bS+b.bS,bT:=a.bT+b.bT }
def mulR(n:Int)(a:aC):aC:={ bP:=n * a.bP,Mem:=n * a.Mem,bS:=n * a.bS,bT:=n * a.bT }
theorem Aq(c:Nat)(a b:aC):cmp c (fG a b)=cmp c a-cmp c b:=by match c with | 0=>rfl | 1=>rfl | 2=>rfl | _+3=>rfl
theorem wu(c:Nat)(a b:aC):cmp c (BP a b)=cmp c a+cmp c b:=by match c with | 0=>rfl | 1=>rfl | 2=>rfl | _+3=>rfl
theorem Bf(c:Nat)(n:Int)(a:aC):cmp c (mulR n a)=n * cmp c a:=by match c with | 0=>rfl | 1=>rfl | 2=>rfl | _+3=>rfl
theorem OE(c:Nat):cmp c bR=0:=by match c with | 0=>rfl | 1=>rfl | 2=>rfl | _+3=>rfl
theorem DD{a:Int}(h:a.natAbs<2 ^ 53):Ao a=some a:=by unfold Ao;simp_all
theorem Hw{a b c d:Int}(e:a.natAbs<2 ^ 53)(f:b.natAbs<2 ^ 53)(g:c.natAbs<2 ^ 53)(hd:d.natAbs<2 ^ 53) :
  bQ (zdz 5000 (a,b) (c,d)) λr=>(r.2=0↔aM ⟨a,b,c,d⟩)/\(r.2=0->r.1=⟨a,b,c,d⟩):=by
 simp only[zdz,m_,DD e,DD f,DD g,DD hd,Option.bind_some];refine (Ut _).bind λr h=>?_;simp only[bz,a_,iU,pc]
 grind
theorem iq{n x:Int}(a:0<=n/\n<=64)(d:0<=x/\x<=1048576):0<=n * x/\n * x<=67108864:=by have e:0<=n * x:=yBO a.1 d.1;have f:n * x<=64 * x:=yAO a.2 d.1;omega
theorem Mx{a:aC}{n:Int}(d:aM a)(m:1<=n/\n<=64):bQ (mG 5000 a n) λr=>(r.2=0↔aM (mulR n a))/\(r.2=0->r.1=mulR n a):=by
 simp only[mG];obtain ⟨p,i,j⟩:=Ut a;have k:=j.2 d;subst k;have e:0<=n/\n<=64:=by omega
 simp only[i,Option.bind_some,OK,Bool.false_or];rw[if_neg (by simp_all)];by_cases g:a=bR
 ·subst g;rw[if_pos (by exact iF.2 rfl),a_];have:mulR n bR=bR:=by simp[mulR,bR]
  rw[this];exact ⟨⟨λ_=>⟨by simp[bR],by simp[bR],by simp[bR],by simp[bR]⟩,λ_=>rfl⟩,λ_=>rfl⟩
 ·rw[if_neg (show ¬(aC.beq a ({ bP:=0,Mem:=0,bS:=0,bT:=0 }:aC)=true) from λh=>g (iF.1 h)),if_neg (by grind)];have f:∀{x:Int},0<=x/\x<=1048576->yd x n=some (x * n):=λ{x} q=>by unfold yd;grind
  have s:=iq e d.FR;have t:=iq e d.mem;have u:=iq e d.Io;have v:=iq e d.Jc;simp only[zc7,Option.bind_some,f d.FR,f d.mem,f d.Io,f d.Jc];rw[Int.mul_comm a.bP n,Int.mul_comm a.Mem n,Int.mul_comm a.bS n,Int.mul_comm a.bT n];refine (Hw (by omega) (by omega) (by omega) (by omega)).bind λr l=>?_;rw[a_];exact l
theorem ZY{a b:aC}(d:aM a)(e:aM b):bQ (wN 5000 a b) λr=>(r.2=0↔aM (fG a b))/\(r.2=0->r.1=fG a b):=by
 simp only[wN,gB];obtain ⟨n,g,h⟩:=Ut a;have i:=h.2 d;subst i;obtain ⟨p,j,k⟩:=Ut b;have l:=k.2 e;subst l;have f:∀{x y:Int},0<=x/\x<=1048576->0<=y/\y<=1048576->yl x y=some (x-y):=λ{x y} q s=>by unfold yl;grind
 simp only[g,j,Option.bind_some,OK,b_,cw,zc7,f d.FR e.FR,f d.mem e.mem,f d.Io e.Io,f d.Jc e.Jc];have:=d.FR;have:=d.mem;have:=d.Io;have:=d.Jc;have:=e.FR;have:=e.mem;have:=e.Io;have:=e.Jc;refine (Hw (by omega) (by omega) (by omega) (by omega)).bind λr m=>?_;rw[a_];exact m
def dw(l:List cU)(i:Int):Int:=(l.map λx=>if x.Node=i then x.aK else 0).sum
theorem nJ{l:List cU}{k:Nat}(h:k<l.length)(i:Int):dw (l.take (k+1)) i=dw (l.take k) i+if l[k].Node=i then l[k].aK else 0:=by grind [List.take_succ_eq_append_getElem,dw]
theorem rH{l:List cU}(h:∀x∈l,0<=x.aK)(i:Int):0<=dw l i:=by
 induction l with
 |nil=>simp[dw]
 |cons x l ih=>grind [dw]
theorem Di{l m:List cU}(i:Int):dw (l++m) i=dw l i+dw m i:=by simp[dw]
theorem Xt{l:List cU}(h:∀x∈l,0<=x.aK)(k:Nat)(i:Int):dw (l.take k) i<=dw l i:=by have:=Di (l:=l.take k) (m:=l.drop k) i;rw[Lw] at this;have:=rH (l:=l.drop k) (λx a=>h x (yBb a)) i;omega
theorem o_{l:List cU}{n:Int}(h:bn l n)(i:Int):0<=dw l i/\dw l i<=64:=by
 refine ⟨rH (λx d=>by have:=h.mem x d;omega) i,?_⟩;have a:∀k,k<=l.length->(dw (l.take k) i<=64/\(dw (l.take k) i≠0->i<=KV (l.map (·.Node)) k)):=by
  intro k;induction k with
  |zero=>grind [dw]
  |succ k ih=>intro hk;obtain ⟨e,f⟩:=ih (by omega);have s:=h k (by omega);have s1:=s.up;have g:=s.lt;have j:=s.lo;have m:=s.hi;rw[nJ (by omega),rD (show k<l.length by omega)];omega
 have:=(a l.length (cX _)).1
 simp_all
theorem QK{l:List cU}{n:Int}(m:l.length<=300)(h:bn l n)(i:Int):zdd 5000 l i=some (dw l i):=by
 simp only[zdd,gB];refine bQ.eq (iS l.length (λk x=>x=(dw (l.take k) i,(k:Int))) (λk x f d a j=>?_) (λx f a=>?_) (by simp[dw]) (by omega))
 ·subst a;have q:=h.mem _ (bG d);have b:=rH (l:=l.take k) (λx a=>by have:=h.mem x (OH a);omega) i;have p:=Xt (λx a=>by have:=h.mem x a;omega) k i;have r:=o_ h i;have e:=nJ d i;simp only[cS d,if_true,bZ d,Option.bind_some,bU (show k<1000000 by omega),bz,nB];refine ⟨λg=>?_,λg=>j _ ?_⟩
  ·rw[if_pos g] at e
   grind [wr]
  simp_all
 ·subst a;simp only[fe,b_,cw,a_,uj]
def q_(a:ce)(i:Nat)(r:aC):aC:=fG r (mulR (dw a.ae i) a.az)
def xS(F:List aC)(a:ce):Prop:=∀i (h:i<F.length),aM (q_ a i F[i])
structure sF (F:List aC) (a:ce) (G:List aC):Prop where
 len:G.length=F.length
 cD:∀i (h:i<G.length),G[i]=q_ a i (F[i]'(by omega))
theorem Ux{a:ce}{F:List aC}(hF:F.length<=300)(hl:a.ae.length<=300)(N:bn a.ae F.length)(E:aM a.az)(T:∀r∈F,aM r) :
  bQ (zbN 5000 a F) λr=>(r.2=0↔xS F a)/\(r.2=0->sF F a r.1):=by
 simp only[zbN,za6,FW (show F.length<=1000000 by omega),Option.bind_some];have nn:∀x∈a.ae,0<=x.aK:=λx p=>by have:=N.mem x p;omega
 refine iS a.ae.length (λk x=>x.1=(k:Int)/\x.2.length=F.length/\(∀r∈x.2,aM r)/\∀i (h:i<x.2.length) (j:i<F.length),x.2[i]=fG F[i] (mulR (dw (a.ae.take k) i) a.az)) (λk x f hk p U=>?_) (λx f p=>?_) ⟨rfl,rfl,T,λi h j=>?_⟩ (by omega)
 ·obtain ⟨W,G⟩:=x;obtain ⟨rfl,g,m,d⟩:=p;dsimp only at g m d ⊢;have q:=N.mem _ (bG hk);have O:a.ae[k].Node.toNat<G.length:=by omega
  have u:a.ae[k].Node.toNat<F.length:=by omega
  have K:((a.ae[k].Node.toNat:Nat):Int)=a.ae[k].Node:=by omega
  have Y:=nJ hk a.ae[k].Node;rw[if_pos rfl] at Y;have le:=Xt nn (k+1) a.ae[k].Node;have n0:=rH (l:=a.ae.take k) (λx p=>nn x (OH p)) a.ae[k].Node;have L:=d _ O u;rw[K] at L;have bad:(∃c,cmp c G[a.ae[k].Node.toNat]-a.ae[k].aK * cmp c a.az<0)->¬xS F a:=λ⟨c,w⟩ y=>by
   have M:=vC.1 (y _ u) c;rw[q_,Aq,Bf,K] at M;rw[L,Aq,Bf] at w;have z:0<=cmp c a.az:=(vC.1 E c).1;have h3:(dw (a.ae.take k) a.ae[k].Node+a.ae[k].aK) * cmp c a.az<=dw a.ae a.ae[k].Node * cmp c a.az:=yAO (by omega) z
   grind
  simp only[cS hk,if_true,bZ hk,Option.bind_some,bU (show k<1000000 by omega)];refine (Mx E q.2.2).bind λr s=>?_;simp only[bz,a_,JP,ne_eq,UA];refine ⟨λh=>⟨⟨λj=>absurd j h,λy=>?_⟩,λj=>absurd j h⟩,λh=>?_⟩
  ·exfalso;refine bad ?_ y;have n:¬aM (mulR a.ae[k].aK a.az):=λv=>h (s.1.2 v);rw[vC] at n;obtain ⟨c,w⟩:=Classical.not_forall.1 n;refine ⟨c,?_⟩;rw[Bf] at w;have M:=iq (show 0<=a.ae[k].aK/\a.ae[k].aK<=64 by omega) (vC.1 E c)
   grind [vC,List.getElem_mem]
  ·have Z:=s.2 h;have v1:=s.1.1 h;obtain ⟨aa,e⟩:=Gm (l:=G) (x:=a.ae[k].Node) (by omega) (by omega);rw[e,aD,Z];refine (ZY (m _ (bG O)) v1).bind λr2 t=>?_;simp only[Option.bind_some,bz,a_,JP,ne_eq,UA];refine ⟨λj=>⟨⟨λz=>absurd z j,λy=>?_⟩,λz=>absurd z j⟩,λj=>?_⟩
   ·exfalso;refine bad ?_ y;have n:¬aM (fG G[a.ae[k].Node.toNat] (mulR a.ae[k].aK a.az)):=λv=>j (t.1.2 v);rw[vC] at n;obtain ⟨c,w⟩:=Classical.not_forall.1 n;refine ⟨c,?_⟩;rw[Aq,Bf] at w;have M:=iq (show 0<=a.ae[k].aK/\a.ae[k].aK<=64 by omega) (vC.1 E c)
    grind [vC,List.getElem_mem]
   ·have e2:=t.2 j;have v2:=t.1.1 j;refine U _ ⟨rfl,by simp_all,λr ab=>?_,λi S ad=>?_⟩
    ·grind
    ·dsimp only at S ⊢;rw[Wu] at S;rw[List.getElem_set];have A:=nJ hk (i:Int);split
     ·rename_i ei;subst ei;rw[e2,L];rw[if_pos K.symm] at A;rw[A];refine dY λc=>?_;rw[Aq,Aq,Aq,Bf,Bf,Bf,Int.add_mul,K];omega
     grind
 ·obtain ⟨W,G⟩:=x;obtain ⟨rfl,g,m,d⟩:=p;dsimp only at g m d ⊢;simp only[fe,b_,cw,a_,uj,Rk,true_implies] at d ⊢;refine ⟨λi h=>?_,g,λi h=>d i h (by omega)⟩;have:=m _ (bG (show i<G.length by omega));rw[d i (by omega) h] at this;exact this
 ·refine dY λc=>?_;rw[Aq,Bf];simp[dw]
theorem Ii{a:ce}(h:a.ae.length<=1000000):jC 5000 a=some a:=by simp only[jC,zbw,FW h,Option.bind_some]
structure vL (M:List (Int×ce)) (F:List aC) (a:ce):Prop where
 CO:1<=a.bj/\a.bj<=1048576
 some':a.ae≠[]
 shares:bn a.ae F.length
 need:aM a.az
 free:cN M a.bj=none
 fits:xS F a
theorem KD{M:List (Int×ce)}{a:ce}{F:List aC}(i:F.length<=300)(g:a.ae.length<=300)(j:∀r∈F,aM r) :
  bQ (zaR 5000 M a F) λr=>(r.2.1=0↔vL M F a)/\(r.2.1=0->r.1=jZ M a.bj a/\sF F a r.2.2):=by
 simp only[zaR,gB,if_true,b_,cw];have no:∀{p:Prop}{x:List (Int×ce)×Int×List aC}{q:Prop},¬p->x.2.1≠0->bQ (some x) (λr=>(r.2.1=0↔p)/\(r.2.1=0->r.1=jZ M a.bj a/\sF F a r.2.2)):=λ{p x q} m n=>by grind [a_]
 rw[bz];refine ⟨λh=>?_,λh=>?_⟩
 ·simp only[gF,bA,nB] at h;refine no (q:=True) (λt=>?_) (by simp);have:=t.CO;rcases h with h | h
  ·omega
  ·exact t.some' (Yy (by omega))
 ·simp only[gF,bA,nB,not_or] at h;refine (oX _ _ g).bind λr k=>?_;rw[bz];refine ⟨λe=>no (q:=True) (λt=>by grind [vL.shares]) (by simp),λe=>?_⟩;simp only[iU,pc] at e;have S:=k.1 e;refine (Ut a.az).bind λs f=>?_;rw[bz];refine ⟨λe=>no (q:=True) (λt=>by grind [vL.need]) (by simp),λe=>?_⟩;simp only[iU,pc] at e;have V:=f.1 e;cases l:cN M a.bj with
  |some v=>exact no (q:=True) (λt=>by grind [vL.free]) (by simp)
  |none=>
   simp only[oel];refine (Ux i g S V j).bind λu d=>?_;rw[bz];refine ⟨λe=>?_,λe=>?_⟩
   ·simp only[JP,ne_eq] at e;exact no (q:=True) (λt=>e (d.1.2 t.fits)) e
   ·simp only[JP,ne_eq,UA] at e;rw[Ii (by omega),aD,a_];refine ⟨⟨λ_=>⟨by omega,λw=>?_,S,V,l,d.1.1 e⟩,λ_=>rfl⟩,λ_=>⟨rfl,d.2 e⟩⟩
    simp_all
end Go.Plain
end
section
namespace Go.Plain
open Go.Abs
theorem dg{p:Prop}(h:¬p):bQ (some false) (λb=>b=true↔p):=by grind [a_]
theorem sR{p:Prop}(h:p):bQ (some true) (λb=>b=true↔p):=by grind [a_]
structure Pd (s:bo) (st:cz):Prop where
 now:0<=st.aT/\st.aT<=1099511627776
 next:1<=st.Next/\st.Next<=s.gU+1
 book:1<=st.eo/\st.eo<=281474976710656
theorem Pz{s:bo}(k:bp s)(st:cz):f_ (jS 5000 s st) (Pd s st):=by have f:=k.ids;simp only[jS,zdm,Option.bind_some,f_];rw[wr (x:=s.gU+1) (by omega) (by omega)];simp only[bz,a_,bN,bA,b_,FU];exact ⟨λa=>⟨λd=>⟨λe=>⟨a,d,e⟩,λh=>h.book⟩,λd h=>d h.next⟩,λa h=>a h.now⟩
def jI(x:Int):Int:=if x=3 then 1 else if x=4 then 2 else if x=5∨x=6 then 3 else 0
theorem FP(x:Int):0<=jI x/\jI x<=3:=by unfold jI;split <;> (try split) <;> (try split) <;> omega
theorem XI(x:Int):oP 5000 x=some (jI x):=by
 simp only[oP,VU,Option.bind_some,nB,gF]
 grind [jI]
structure kE (s:bo) (st:cz) (j:aL):Prop where
 ok:gy j
 next:j.Id<st.Next
 user:j.c_<s.aO
 queue:j.Queue<s.aq.length
 born:j.dF<=st.aT
 start:j.Start<=st.aT
 fin:j.End<=st.aT
 version:j.aQ<=s.aE+jI j.State
def JI(l:List aL):Nat->Int
 |0=>0
 |i+1=>((l[i]?).map (·.Id)).getD 0
theorem wO{l:List aL}{i:Nat}(h:i<l.length):JI l (i+1)=l[i].Id:=by simp[JI,h]
structure dC (s:bo) (st:cz):Prop where
 len:(st.aj.length:Int)<=s.aj
 each:∀j∈st.aj,kE s st j
 bF:cf st.aj
theorem RJ{s:bo}{st:cz}(h:(st.aj.length:Int)<=s.aj)(g:∀i (h:i<st.aj.length),kE s st st.aj[i]/\JI st.aj i<st.aj[i].Id):dC s st:=
 ⟨h,λj a=>by grind [List.getElem_of_mem],λi d=>by grind [wO]⟩
theorem dC.cD{s:bo}{st:cz}(h:dC s st)(i:Nat)(j:i<st.aj.length):kE s st st.aj[i]/\JI st.aj i<st.aj[i].Id:=by
 refine ⟨h.each _ (bG j),?_⟩
 match i,j with
 |0,j=>have:=(h.each _ (bG j)).ok.id;grind [JI]
 |i+1,j=>rw[wO (by omega)];exact h.bF i j
theorem dC.ids{s:bo}{st:cz}(h:dC s st):∀j∈st.aj,0<=j.Id/\j.Id<=1048576:=λj i=>by have:=(h.each j i).ok.id;omega
theorem max3{a b c n:Int}:(if c > (if b > a then b else a) then c else (if b > a then b else a)) > n↔a > n∨b > n∨c > n:=by omega
theorem jobs_ok{s:bo}(k:bp s){st:cz}(p:lr s st):f_ (sf 5000 s st) (dC s st):=by
 have z:=k.vW;have A:=p.bg;simp only[sf,gB,XI,Option.bind_some];rw[f_,bz];refine ⟨λh=>dg λq=>?_,λt=>?_⟩
 ·have:=q.len
  grind
 ·simp only[bA] at t;refine iS st.aj.length (λi x=>x=(JI st.aj i,(i:Int))/\∀j (h:j<st.aj.length),j<i->kE s st st.aj[j]/\JI st.aj j<st.aj[j].Id) (λi x f d g u=>?_) (λx f g=>?_) ⟨rfl,λj h l=>by omega⟩ (by omega)
  ·obtain ⟨rfl,n⟩:=g;simp only[cS d,if_true,bZ d,Option.bind_some,bU (show i<1000000 by omega)];refine (Bx _).bind λr e=>?_;rw[bz];refine ⟨λh=>dg λq=>?_,λh=>?_⟩
   ·have a:=q.cD i d;have E:=e.2 a.1.ok;have F:=a.1.next
    grind
   ·simp only[gF,bA,not_or,iU,pc] at h;have a:=e.1 h.1.1;rw[bz];refine ⟨λh=>dg λq=>?_,λv=>?_⟩
    ·have a:=(q.cD i d).1;have:=a.user;have:=a.queue
     grind
    ·simp only[gF,bA,not_or] at v;rw[bz];refine ⟨λh=>?_,λw=>?_⟩
     ·refine dg λq=>?_;have a:=(q.cD i d).1;have:=a.born;have:=a.start;have:=a.fin
      grind
     ·simp only[bA,max3] at w;have G:=FP st.aj[i].State;rw[wr (x:=s.aE+jI _) (by omega) (by omega),bz];refine ⟨λh=>dg λq=>?_,λy=>u _ ⟨by rw[wO d],λj K m=>?_⟩⟩
      ·have a:=(q.cD i d).1.version
       grind
      ·simp only[bA] at y;rcases XX (yCf.1 m) with l | l
       ·simp_all
       ·subst l;exact ⟨⟨a,by omega,by omega,by omega,by omega,by omega,by omega,by omega⟩,by omega⟩
  ·obtain ⟨rfl,n⟩:=g;simp only[fe,b_,cw];exact sR (RJ (by omega) λi d=>n i d d)
structure WaitsIn (s:bo) (st:cz) (j:aL):Prop where
 fits:jD 5000 s j.Queue j.aK j.az=some true
 after:∀d∈j.aI,∃i∈st.aj,i.Id=d.bj
def H_(s:bo)(st:cz)(j:aL):Prop:=j.State<5->WaitsIn s st j
theorem Pe{s:bo}(k:bp s){st:cz}(t:lr s st)(J:dC s st):f_ (jN 5000 s st) (∀j∈st.aj,H_ s st j):=by
 have F:=t.bg;simp only[jN,gB,VU,Option.bind_some];refine Pm st.aj (H_ s st) _ (λh=>h) (λi f n Q u v=>?_) (λf h=>?_) (by omega)
 ·simp only[cS n,if_true,bZ n,Option.bind_some,bU (show i<1000000 by omega)];have a:=J.each _ (bG n);have z:=a.ok.state.st;rw[bz];refine ⟨λh=>u λhs=>?_,λh=>?_⟩
  ·grind
  ·simp only[gF,nB,not_or] at h;have hs:st.aj[i].State<5:=by omega
   obtain ⟨b,x,G⟩:=Sq t.spec k (q:=st.aj[i].Queue) (m:=st.aj[i].aK) a.ok.need a.ok.nU;rw[x,aD,bz];refine ⟨λe=>?_,λe=>?_⟩
   ·rw[a_];refine v λw=>?_;have:=(w hs).fits
    simp_all
   ·simp only[iU,pc] at e;subst e;have K:=a.ok.ny;refine wV st.aj[i].aI (λ_ d=>∃j∈st.aj,j.Id=d.bj) (λm g l y A=>?_) (λg y=>?_) (by omega)
    ·simp only[cS l,if_true,bZ l,Option.bind_some,bU (show m<1000000 by omega)];have L:=a.ok.after _ (bG l);have E:=a.ok.id;refine (Tn (by omega) J.bF (id:=st.aj[i].aI[m].bj) (by omega) J.ids).bind λr p=>?_;rw[bz];refine ⟨λe=>?_,λe=>A ?_⟩
     ·rw[a_];refine v λw=>?_;have:=p.1.2 ((w hs).after _ (bG l))
      simp_all
     simp_all
    ·simp only[fe,b_,cw];exact u λ_=>⟨x,DF y⟩
 ·simp only[fe,b_,cw];exact sR h
structure Nl (s:bo) (st:cz):Prop where
 len:(st.oF.length:Int)=s.aO
 use:∀x∈st.oF,0<=x/\x<=1099511627776
 qlen:st.aG.aq.length=s.aq.length
 nodes:0<=st.aG.am/\st.aG.am<=281474976710656
 stamps:∀x∈st.aG.aq,0<=x/\x<=281474976710656
theorem ND(l:List Int)(d:l.length<=300):f_ (pz 5000 l) (∀x∈l,0<=x/\x<=1099511627776):=by
 simp only[pz];refine Pm l (λx=>0<=x/\x<=1099511627776) _ (λh=>h) (λi f a Q e g=>?_) (λf h=>?_) (by omega)
 ·simp only[cS a,if_true,bZ a,Option.bind_some,bU (show i<1000000 by omega),bz,a_,gF,bA]
  grind
 ·simp only[fe,b_,cw];exact sR h
theorem Zr{s:bo}{st:cz}(j:lr s st):f_ (pd 5000 s st) (Nl s st):=by
 have m:=j.use;have n:=j.stamps;simp only[pd,gB,zdm,Option.bind_some,if_true];rw[f_,bz];refine ⟨λh=>dg λq=>?_,λh=>?_⟩
 ·simp only[JP,ne_eq] at h;exact h q.len
 ·simp only[JP,ne_eq,UA] at h;refine (ND st.oF (by omega)).bind λr k=>?_;rw[bz];refine ⟨λa=>dg λq=>?_,λa=>?_⟩
  ·have:=k.2 q.use
   simp_all
  ·simp only[iU,pc] at a;rw[bz];refine ⟨λd=>dg λq=>?_,λd=>?_⟩
   ·simp only[JP,ne_eq] at d
    grind [Nl.qlen]
   ·simp only[JP,ne_eq,UA] at d;rw[bz];refine ⟨λe=>dg λq=>?_,λe=>?_⟩
    ·grind [Nl.nodes]
    ·simp only[iU,pc,bN,bA] at e;refine Pm st.aG.aq (λx=>0<=x/\x<=281474976710656) _ (λh=>h.stamps) (λi f l Q p t=>?_) (λf g=>?_) (by omega)
     ·simp only[cS l,if_true,bZ l,Option.bind_some,bU (show i<1000000 by omega),bz,a_,iU,yB6,yBh]
      grind
     ·simp only[fe,b_,cw];exact sR ⟨h,k.1 a,by omega,e,g⟩
theorem ref_use(l:List Int)(n:Int)(d:l.length<=300):f_ (zeS 5000 l n) ((l.length:Int)=n/\∀x∈l,0<=x/\x<=1099511627776):=by
 simp only[zeS,gB];refine Pm l (λx=>0<=x/\x<=1099511627776) _ (λh=>h.2) (λi f a Q e g=>?_) (λf h=>?_) (by omega)
 ·simp only[cS a,if_true,bZ a,Option.bind_some,bU (show i<1000000 by omega),bz,a_,bA]
  grind
 ·simp only[fe,b_,cw,a_,nB]
  simp_all
theorem IL(x:Int):f_ (zbi 5000 x) (0<=x/\x<=281474976710656):=by simp only[zbi,f_,a_,bN,bA,ge_iff_le]
end Go.Plain
end
section
namespace Go.Plain
open Go.Abs
structure dP (l:List bO):Prop where
 ne:0<l.length
 inc:∀i (h:i+1<l.length),l[i].At<l[i+1].At
 each:∀s∈l,(0<=s.At/\s.At<=281474976710656)/\aM s.cy
theorem dP.lt{l:List bO}(h:dP l):∀{i j:Nat}(s:i<j)(u:j<l.length),l[i].At<l[j].At:=by
 intro i j s u;induction j with
 |zero=>omega
 |succ j ih=>
  have x:=h.inc j u
  grind
theorem dP.le{l:List bO}(h:dP l){i j:Nat}(s:i<=j)(x:j<l.length):l[i].At<=l[j].At:=by
 rcases XX s with u | u
 ·have:=h.lt u x;omega
 simp_all
theorem dP.idx{l:List bO}(h:dP l){i j:Nat}(u:i<l.length)(x:j<l.length)(e:l[i].At=l[j].At):i=j:=by
 rcases VV i j with s | s | s
 ·have:=h.lt s x;omega
 ·exact s
 ·have:=h.lt s u;omega
theorem dP.inj{l:List bO}(h:dP l){a b:bO}(s:a∈l)(u:b∈l)(e:a.At=b.At):a=b:=by
 obtain ⟨i,x,rfl⟩:=iX s;obtain ⟨j,z,rfl⟩:=iX u;have:=h.idx x z e
 simp_all
def HK(l:List bO):Int:=l.foldl (λ_ s=>s.At) (-1)
theorem zd{l:List bO}{i:Nat}(h:i<l.length):HK (l.take (i+1))=l[i].At:=by rw[DC h,HK,List.foldl_append];rfl
def Qr(l:List bO)(i:Nat)(s:bO):Prop:=HK (l.take i)<s.At/\s.At<=281474976710656/\aM s.cy
theorem stOk_of{l:List bO}(e:0<l.length)(h:∀i (a:i<l.length),Qr l i l[i]):dP l:=by
 have d:∀i (h:i+1<l.length),l[i].At<l[i+1].At:=λi a=>by
  have:=(h (i+1) a).1
  grind [zd]
 have f:∀i (a:i<l.length),0<=l[i].At:=by
  intro i;induction i with
  |zero=>intro a;have:=(h 0 a).1;grind [HK]
  |succ i ih=>grind
 exact ⟨e,d,DF (A:=λs=>(0<=s.At/\s.At<=281474976710656)/\aM s.cy) λi a=>⟨⟨f i a,(h i a).2.1⟩,(h i a).2.2⟩⟩
theorem dP.cD{l:List bO}(h:dP l)(i:Nat)(j:i<l.length):Qr l i l[i]:=by
 have e:=h.each _ (bG j);refine ⟨?_,e.1.2,e.2⟩
 match i,j with
 |0,j=>grind [HK]
 |i+1,j=>rw[zd (by omega)];exact h.inc i j
theorem Nr(l:List bO)(t:l.length<=1000):f_ (zec 5000 l) (dP l):=by
 unfold zec;refine iS l.length (λi x=>x=(HK (l.take i),(i:Int))/\∀j (n:j<l.length),j<i->Qr l j l[j]) (λi x f a e p=>?_) (λx f e=>?_) ⟨rfl,λj _ h=>by omega⟩ (by omega)
 ·obtain ⟨rfl,s⟩:=e;simp only[gB];rw[if_pos (cS a),bZ a,aD,bz];refine ⟨λh=>?_,λh=>?_⟩
  ·rw[if_pos trivial];refine dg λq=>?_;have:=q.cD i a;simp only[gF,bA] at h;have:=this.1;have:=(q.cD i a).2.1;omega
  ·refine (Ut _).bind λr d=>?_;rw[bz];refine ⟨λg=>dg λq=>?_,λg=>?_⟩
   ·have:=d.2 (q.cD i a).2.2
    simp_all
   ·simp only[iU,pc] at g;simp only[gF,bA,not_or] at h;rw[bU (show i<1000000 by omega)];refine p _ ⟨by rw[zd a],λj n k=>?_⟩;rcases XX (yCf.1 k) with m | m
    ·simp_all
    ·subst m;exact ⟨by omega,by omega,d.1 g⟩
 ·obtain ⟨rfl,s⟩:=e;simp only;rw[if_neg (by simp),a_,bA]
  grind [stOk_of,dP.ne]
theorem jP{l:List bO}(a:l.length<=1000)(h:dP l):zec 5000 l=some true:=by
 obtain ⟨r,e,d⟩:=Nr l a
 simp_all
structure Idx (l:List bO) (t:Int) (k:Nat):Prop where
 le:k<=l.length
 lo:∀i (h:i<l.length),i<k->l[i].At<=t
 hi:∀i (h:i<l.length),k<=i->t<l[i].At
theorem zcV{l:List bO}(s:l.length<=1000)(hs:dP l)(t:Int):bQ (fO 5000 l t) λr=>∃k,Idx l t k/\r=(k:Int)-1:=by
 unfold fO;rw[kC];refine lpM (λx=>∃i j:Nat,x=((i:Int),(j:Int))/\i<=j/\j<=l.length/\(∀k (h:k<l.length),k<i->l[k].At<=t)/\(∀k (h:k<l.length),j<=k->t<l[k].At)) (λx=>(x.2-x.1).toNat) (λx f q e=>?_) ⟨0,l.length,rfl,by omega,by omega,λk h hk=>by omega,λk h hk=>by omega⟩ (by omega);obtain ⟨i,j,rfl,u,g,m,n⟩:=q;rw[bz];dsimp only;refine ⟨λh=>?_,λh=>?_⟩
 ·simp only[bA] at h;rw[mid (by omega)];have p:(i+j) / 2<l.length:=by omega
  rw[bZ p,aD,aD,bz];refine ⟨λd=>?_,λd=>?_⟩
  ·simp only[iU,yBh] at d;rw[bU (by omega)];refine e _ ⟨(i+j) / 2+1,j,rfl,by omega,g,λk hk a=>?_,n⟩ (by omega);have:=hs.le (show k<=(i+j) / 2 by omega) p;omega
  ·simp only[iU,yBh] at d;refine e _ ⟨i,(i+j) / 2,rfl,by omega,by omega,m,λk hk a=>?_⟩ (by omega);have:=hs.le a hk;omega
 ·simp only[bA] at h;have:i=j:=by omega
  subst this;simp only[a_];exact ⟨i,⟨g,m,n⟩,by grind [wr]⟩
theorem Idx.pos{l:List bO}{t:Int}{k:Nat}(h:Idx l t k)(hs:dP l)(i:(l[0]'hs.ne).At<=t):0<k:=by
 rcases Nat.eq_zero_or_pos k with e | e
 ·subst e;have:=h.hi 0 hs.ne (cX _);omega
 omega
def yE(l:List bO)(t:Int)(r:aC):Prop:=∃s∈l,s.At<=t/\(∀a∈l,a.At<=t->a.At<=s.At)/\s.cy=r
theorem yE.BG{l:List bO}(hs:dP l){t:Int}{r j:aC}(h:yE l t r)(u:yE l t j):r=j:=by obtain ⟨s,x,F,G,rfl⟩:=h;obtain ⟨z,i,A,E,rfl⟩:=u;have:s=z:=hs.inj x i (by grind);rw[this]
theorem yE.ok{l:List bO}(hs:dP l){t:Int}{r:aC}(h:yE l t r):aM r:=by obtain ⟨s,i,_,_,rfl⟩:=h;exact (hs.each s i).2
theorem Idx.vat{l:List bO}{t:Int}{k:Nat}(h:Idx l t (k+1))(hs:dP l)(hk:k<l.length):yE l t l[k].cy:=by
 refine ⟨l[k],bG hk,h.lo k hk (by omega),λs SW u=>?_,rfl⟩;obtain ⟨i,j,rfl⟩:=iX SW;by_cases q:i<=k
 ·exact hs.le q hk
 ·have:=h.hi i j (by omega);omega
end Go.Plain
end
section
namespace Go.Plain
open Go.Abs
structure GH (L:List aC) (r:aC):Prop where
 le:∀v∈L,∀c,cmp c r<=cmp c v
 cD:∀c,∃v∈L,cmp c v=cmp c r
def vH(a b:aC):aC:={ bP:=if b.bP<a.bP then b.bP else a.bP,Mem:=if b.Mem<a.Mem then b.Mem else a.Mem,bS:=if b.bS<a.bS then b.bS else a.bS,bT:=if b.bT<a.bT then b.bT else a.bT }
theorem HH(c:Nat)(a b:aC):cmp c (vH a b)=if cmp c b<cmp c a then cmp c b else cmp c a:=by match c with | 0=>rfl | 1=>rfl | 2=>rfl | _+3=>rfl
theorem YC(a b:aC):zcY 5000 a b=some (vH a b):=by
 have d:∀x y:Int,zcd 5000 x y=some (if y<x then y else x):=λx y=>by
  unfold zcd
  grind
 simp only[zcY,d,Option.bind_some,vH]
theorem GH.one(v:aC):GH [v] v:=⟨λw i c=>by simp_all,λc=>⟨v,by simp,rfl⟩⟩
theorem GH.add{L:List aC}{r:aC}(h:GH L r)(v:aC):GH (L++[v]) (vH r v):={
 le:=λw hw c=>by
  rw[HH];rcases gp.1 hw with hw | hw
  ·have:=h.le w hw c;omega
  grind
 cD:=λc=>by
  rw[HH];split
  ·simp_all
  ·obtain ⟨w,hw,e⟩:=h.cD c;grind }
structure Rj (V:Int->aC->Prop) (a b:Int) (r:aC):Prop where
 le:∀t v,a<=t->t<b->V t v->∀c,cmp c r<=cmp c v
 cD:∀c,∃t v,a<=t/\t<b/\V t v/\cmp c v=cmp c r
theorem Rj.BG{V:Int->aC->Prop}{a b:Int}{r u:aC}(h:Rj V a b r)(x:Rj V a b u):r=u:=dY λc=>by obtain ⟨t,v,z,A,E,e⟩:=h.cD c;obtain ⟨F,G,i,j,s,K⟩:=x.cD c;have:=h.le F G i j s c;have:=x.le t v z A E c;omega
theorem Rj.iff{V W:Int->aC->Prop}{a b:Int}{r:aC}(h:Rj V a b r)(u:∀t v,a<=t->(V t v↔W t v)):Rj W a b r:=
 ⟨λt v i j s=>h.le t v i j ((u t v i).2 s),λc=>by obtain ⟨t,v,i,j,s,e⟩:=h.cD c;grind⟩
theorem kl{α:Type}{l:List α}{i:Nat}(h:i<=l.length):slice? l (i:Int) (l.length:Int)=some (l.drop i):=by
 unfold slice?
 simp_all
theorem LH{l:List bO}(A:l.length<=1000)(hs:dP l){a b:Int}(E:(l[0]'hs.ne).At<=a)(u:a<b):bQ (oU 5000 l a b) (Rj (yE l) a b):=by
 unfold oU;simp only[gB];rw[jP A hs,aD,if_neg (by simp)];rw[show (0:Int)=((0:Nat):Int) from rfl,bZ hs.ne,aD,if_neg (by simp_all)];refine (zcV A hs a).bind λr y=>?_;obtain ⟨k,hk,rfl⟩:=y;have W:=hk.pos hs E;have F:=hk.le;obtain ⟨m,rfl⟩:∃m,k=m+1:=⟨k-1,by omega⟩;rw[show ((m+1:Nat):Int)-1=(m:Int) by omega,bZ (show m<l.length by omega),aD,bU (by omega),kl (by omega),aD];have fin:∀(n:Nat)(v:aC),n<=(l.drop (m+1)).length->(∀(j:Nat)(h:j<(l.drop (m+1)).length),j<n->(l.drop (m+1))[j].At<b)->(∀(j:Nat)(h:j<(l.drop (m+1)).length),n<=j->b<=(l.drop (m+1))[j].At) ->
   GH (l[m].cy::((l.drop (m+1)).take n).map (·.cy)) v->Rj (yE l) a b v:=λn v Y G Z d=>by
  have len:(l.drop (m+1)).length=l.length-(m+1):=yBN ..;refine ⟨λt w ht K hw c=>?_,λc=>?_⟩
  ·obtain ⟨s,L,q2,M,rfl⟩:=hw;obtain ⟨i,q,rfl⟩:=iX L;have hm:=M l[m] (bG _) (by have:=hk.lo m (by omega) (by omega);omega);refine d.le _ ?_ c;by_cases e:i=m
   ·simp_all
   ·have N:m<i:=by
     rcases VV i m with h | h | h
     ·have:=hs.lt h (by omega);omega
     ·omega
     omega
    have O:i-(m+1)<n:=by grind
    refine lI _ (gD.2 ⟨l[i],?_,rfl⟩)
    grind [List.mem_iff_getElem]
  ·obtain ⟨w,hw,e⟩:=d.cD c;rcases gq.1 hw with rfl | hw
   ·exact ⟨a,_,Jz _,u,hk.vat hs (by omega),e⟩
   ·obtain ⟨s,SW,rfl⟩:=gD.1 hw;obtain ⟨j,g,rfl⟩:=KX.1 SW;rw[BY] at g;rw[Po] at e SW;have p:=G j (by omega) (by omega);rw[yBW] at e p;have ha:=hk.hi (m+1+j) (by omega) (by omega);refine ⟨l[m+1+j].At,_,by omega,p,⟨l[m+1+j],bG _,Jz _,λs' _ h=>h,rfl⟩,e⟩
 refine iS (l.drop (m+1)).length (λi x=>∃v:aC,x=((i:Int),v.bP,v.Mem,v.bS,v.bT)/\GH (l[m].cy::((l.drop (m+1)).take i).map (·.cy)) v/\∀j (h:j<(l.drop (m+1)).length),j<i->(l.drop (m+1))[j].At<b) (λi x f q z y=>?_) (λx f z=>?_)
  ⟨l[m].cy,rfl,GH.one _,λj _ h=>by omega⟩ (by grind)
 ·obtain ⟨v,rfl,d,p⟩:=z;have S:m+1+i<l.length:=by grind
  dsimp only;rw[if_pos (cS q),bZ q,aD,bz];refine ⟨λh=>?_,λh=>?_⟩
  ·simp only[bA] at h;rw[a_];refine fin i v (yCc q) p (λj g T=>?_) d;rw[yBW] at h ⊢;have:=hs.le (show m+1+i<=m+1+j by omega) (by grind);omega
  ·simp only[bA] at h;rw[show ∀b,BB 5000 ({ bP:=v.bP,Mem:=v.Mem,bS:=v.bS,bT:=v.bT }:aC) b=some (vH v b) from λb=>rfl,aD,bU (show i<1000000 by omega)];refine y _ ⟨vH v (l.drop (m+1))[i].cy,rfl,?_,λj g U=>?_⟩
   ·rw[DC q,Yb,<-List.cons_append];exact d.add _
   grind
 ·obtain ⟨v,rfl,d,p⟩:=z;dsimp only;rw[if_neg (by simp),a_];exact fin _ v (cX _) (λj g h=>p j g h) (λj g h=>by omega) d
structure Kept (l r:List bO):Prop where
 ok:dP r
 len:r.length<=l.length
 first:∀(h:0<l.length)(h':0<r.length),r[0].At=l[0].At
 sub:∀s∈r,s∈l
 val:∀t v,yE l t v->yE r t v
theorem eH{l:List bO}{i:Nat}(a:i<l.length){s:bO}:s∈l.take (i+1)↔s∈l.take i∨s=l[i]:=by rw[DC a,gp,zi]
theorem yE.take{l:List bO}{i:Nat}(x:i<l.length)(hs:dP l){t:Int}{v:aC}(h:yE (l.take (i+1)) t v):(l[i].At<=t/\v=l[i].cy)∨(t<l[i].At/\yE (l.take i) t v):=by
 obtain ⟨s,z,A,u,rfl⟩:=h;rw[DC x] at z u;by_cases q:l[i].At<=t
 ·left;refine ⟨q,?_⟩;have E:=u l[i] (yB5 _ (zi.2 rfl)) q;rcases gp.1 z with h | h
  ·obtain ⟨j,F,rfl⟩:=KX.1 h;rw[BY] at F;rw[Po] at E ⊢;have:=hs.lt (show j<i by omega) x;omega
  simp_all
 ·right;refine ⟨by omega,s,?_,A,λG K=>u G (yB9 _ K),rfl⟩
  grind
theorem aab{l:List bO}(hs:dP l){s:bO}(h:∀x∈l,x.At<s.At)(f:(0<=s.At/\s.At<=281474976710656)/\aM s.cy):dP (l++[s]):=by
 have:=hs.ne;refine ⟨by simp,λi d=>?_,λx a=>?_⟩
 ·rw[AH,xAi] at d;rw[yBL (show i<l.length by omega)];by_cases e:i+1<l.length
  ·rw[yBL e];exact hs.inc i e
  simp_all
 ·rcases gp.1 a with a | a
  ·exact hs.each x a
  simp_all
theorem MK{l:List bO}(G:l.length<=1000)(hs:dP l):bQ (oZ 5000 l) (Kept l):=by
 have m:=hs.ne;unfold oZ;rw[jP G hs,aD,if_neg (by simp)];rw[show (0:Int)=((0:Nat):Int) from rfl,bZ m,aD];rw[show slice? l 1 (l.length:Int)=some (l.drop 1) from kl m,aD];have S:(l.drop 1).length=l.length-1:=yBN ..;refine iS (l.drop 1).length (λi x=>x.1=(i:Int)/\Kept (l.take (i+1)) x.2/\∃(h:0<x.2.length)(z:i<l.length),x.2[x.2.length-1].cy=l[i].cy) (λi x f z r T=>?_) (λx f r=>?_) ?_ (by omega)
 ·obtain ⟨y,a⟩:=x;obtain ⟨rfl,hk,g,A,d⟩:=r;dsimp only at hk g d ⊢;have k:i+1<l.length:=by omega
  have u:=hk.len;rw[BY] at u;have L:(l.drop 1)[i]=l[i+1]:=by simp_all
  simp only[gB];rw[if_pos (cS z),bZ z,aD,L,wr (x:=(a.length:Int)-1) (by omega) (by omega),show (a.length:Int)-1=((a.length-1:Nat):Int) by omega,bZ (show a.length-1<a.length by omega),aD,bU (show i<1000000 by omega),d];have n:∀x∈a,x.At<l[i+1].At:=λx r=>by have:=hk.sub x r;obtain ⟨j,E,rfl⟩:=KX.1 this;rw[BY] at E;rw[Po];exact hs.lt (by omega) k
  rw[bz];refine ⟨λh=>?_,λh=>?_⟩
  ·rw[zq (by grind),aD];have K:Kept (l.take (i+1+1)) (a++[l[i+1]]):=by
    refine ⟨aab hk.ok n (hs.each _ (bG _)),by grind,λh w=>?_,λs SW=>?_,λt v p=>?_⟩
    ·have:=hk.first (by grind) g
     simp_all
    ·rcases gp.1 SW with q | q
     ·exact (eH k).2 (.inl (hk.sub s q))
     grind [eH]
    ·rcases p.take k hs with ⟨q,rfl⟩ | ⟨q,p⟩
     ·exact ⟨l[i+1],yB5 _ (zi.2 rfl),q,λF w _=>by grind,rfl⟩
     ·obtain ⟨s,M,N,U,O⟩:=hk.val t v p;exact ⟨s,yB9 _ M,N,λF w W=>by grind,O⟩
   simp_all
  ·have e:l[i+1].cy=l[i].cy:=by
    simp only[iU,pc] at h;simp only[bO.beq,bN,nB,iF] at h
    simp_all
   have K:Kept (l.take (i+1+1)) a:=by
    refine ⟨hk.ok,by grind,λh w=>?_,λs SW=>(eH k).2 (.inl (hk.sub s SW)),λt v p=>?_⟩
    ·have:=hk.first (by grind) g
     simp_all
    ·rcases p.take k hs with ⟨q,rfl⟩ | ⟨q,p⟩
     ·refine ⟨a[a.length-1],bG _,by grind,λF w _=>?_,by simp_all⟩;obtain ⟨j,E,rfl⟩:=iX w;exact hk.ok.le (by omega) (by omega)
     ·exact hk.val t v p
   simp_all
 ·obtain ⟨y,a⟩:=x;obtain ⟨rfl,hk,g,A,d⟩:=r;dsimp only at hk ⊢;rw[if_neg (by simp),a_]
  grind
 ·have e:l.take 1=[l[0]]:=by grind [List.take_succ_eq_append_getElem]
  refine ⟨rfl,?_,by simp,m,rfl⟩;rw[Rz,e];refine ⟨⟨by simp,λi h=>by simp at h,λs h=>by simp at h;subst h;exact hs.each _ (bG _)⟩,by simp,λ_ _=>rfl,λs h=>h,λt v h=>h⟩
end Go.Plain
end
section
namespace Go.Plain
open Go.Abs
theorem dP.pw{l:List bO}(h:dP l):l.Pairwise λa b=>a.At<b.At:=yAU.2 λi j x u s=>h.lt s u
theorem stOk_pw{l:List bO}(d:0<l.length)(h:l.Pairwise λa b=>a.At<b.At)(e:∀s∈l,(0<=s.At/\s.At<=281474976710656)/\aM s.cy):dP l:=
 ⟨d,λi f=>yAU.1 h i (i+1) (by omega) f (by omega),e⟩
theorem yE.ex{l:List bO}(hs:dP l){t:Int}(x:(l[0]'hs.ne).At<=t):∃v,yE l t v:=by
 have:∀n,0<n->n<=l.length->∃v,yE (l.take n) t v:=by
  intro n;induction n with
  |zero=>omega
  |succ n ih=>
   intro _ K;rcases Nat.eq_zero_or_pos n with rfl | z
   ·refine ⟨l[0].cy,l[0],?_,x,λu i _=>?_,rfl⟩
    ·grind [eH]
    ·rcases (eH (show 0<l.length by omega)).1 i with i | e
     ·grind
     simp_all
   ·obtain ⟨v,s,A,E,M,F⟩:=ih z (by omega);by_cases q:l[n].At<=t
    ·refine ⟨l[n].cy,l[n],(eH (by omega)).2 (.inr rfl),q,λu i _=>?_,rfl⟩;rcases (eH (show n<l.length by omega)).1 i with i | e
     ·obtain ⟨j,G,rfl⟩:=KX.1 i;rw[BY] at G;rw[Po];exact hs.le (by omega) (by omega)
     simp_all
    ·refine ⟨v,s,(eH (by omega)).2 (.inl A),E,λu i O=>?_,F⟩
     grind [eH]
 have:=this l.length hs.ne (cX _)
 simp_all
theorem insS_ok{l:List bO}(a:l.length<=2000)(x:bO){k:Nat}(hk:k<=l.length):zaW 5000 l [x] (k:Int)=some (l.take k++[x]++l.drop k):=by
 unfold zaW zaA;rw[kl hk,aD,if_neg (by simp)];by_cases e:k=l.length
 ·subst e;rw[if_pos (by simp),zq (by grind),aD];simp[orE]
 ·rw[if_neg (by grind)];unfold orE Lk
  grind
structure CutOk (l:List bO) (t:Int) (r:List bO):Prop where
 ok:dP r
 len:r.length<=l.length+1
 first:∀(h:0<l.length)(h':0<r.length),r[0].At=l[0].At
 val:∀u v,yE l u v->yE r u v
 cD:∃s∈r,s.At=t
 RI:∀s∈l,s∈r
theorem lZ{l:List bO}(A:l.length<=1000)(hs:dP l){t:Int}(E:(l[0]'hs.ne).At<=t)(W:t<=281474976710656):bQ (qq 5000 l t) (CutOk l t):=by
 unfold qq;refine (zcV A hs t).bind λr F=>?_;obtain ⟨k,hk,rfl⟩:=F;have Y:=hk.pos hs E;have i:=hk.le;obtain ⟨m,rfl⟩:∃m,k=m+1:=⟨k-1,by omega⟩;have d:m<l.length:=by omega
 unfold za0;rw[show ((m+1:Nat):Int)-1=(m:Int) by omega,FW (by omega),aD,bZ d,aD,bz];refine ⟨λh=>?_,λh=>?_⟩
 ·simp only[nB] at h;exact a_.2 ⟨hs,by omega,λ_ _=>rfl,λu v h=>h,⟨_,bG d,h⟩,λs h=>h⟩
 ·simp only[nB] at h;have G:=hk.lo m d (by omega);have Z:=hs.each _ (bG d);rw[aD,bU (show m<1000000 by omega),insS_ok (by omega) _ i,aD,a_];generalize hx:({ At:=t,cy:=l[m].cy }:bO)=x;have K:x.At=t:=by grind
  have L:x.cy=l[m].cy:=by grind
  have hA:∀s∈l.take (m+1),s.At<t:=λs SW=>by obtain ⟨j,e,rfl⟩:=KX.1 SW;rw[BY] at e;rw[Po];have:=hs.le (show j<=m by omega) d;omega
  have hB:∀s∈l.drop (m+1),t<s.At:=λs SW=>by obtain ⟨j,e,rfl⟩:=KX.1 SW;rw[yBN] at e;rw[yBW];exact hk.hi _ (by omega) (by omega)
  have n:l=l.take (m+1)++l.drop (m+1):=(Lw ..).symm;have f:=hs.pw;rw[n] at f;obtain ⟨p1,M,p3⟩:=OO.1 f;have mem:∀s,s∈l.take (m+1)++[x]++l.drop (m+1)↔s∈l∨s=x:=λs=>by
   constructor
   ·grind
   grind
  refine ⟨stOk_pw (by grind) (OO.2 ⟨OO.2 ⟨p1,by simp,λa N b O=>?_⟩,M,λa N b O=>?_⟩) λs h=>?_,?_,λh p=>?_,λu v S=>?_,⟨x,(mem x).2 (.inr rfl),K⟩,λs h=>(mem s).2 (.inl h)⟩
  ·grind
  ·grind
  ·rcases (mem s).1 h with h | rfl
   ·exact hs.each s h
   grind
  ·grind
  ·grind
  ·obtain ⟨s,g,w,T,rfl⟩:=S;by_cases q:t<=u
   ·have U:=T l[m] (bG d) (by omega);by_cases q2:s.At<t
    ·have:s=l[m]:=by
      obtain ⟨j,e,rfl⟩:=iX g;have:j<=m:=by
       rcases sO m j with h | h
       ·have:=hk.hi j e (by omega);omega
       omega
      have:=hs.le this d;exact hs.inj g (bG d) (by omega)
     subst this;exact ⟨x,(mem x).2 (.inr rfl),by omega,λy p z=>by grind,L⟩
    ·exact ⟨s,(mem s).2 (.inl g),w,λy p z=>by grind,rfl⟩
   ·exact ⟨s,(mem s).2 (.inl g),w,λy p z=>by grind,rfl⟩
theorem WY:kU=qq:=rfl
def vl(out:List bO)(need:aC)(lo a:Nat):List bO:=out.mapIdx λj s=>if lo<=j/\j<a then { At:=s.At,cy:=fG s.cy need } else s
theorem Sd{out:List bO}{need:aC}{lo a:Nat}:(vl out need lo a).length=out.length:=by simp[vl]
theorem jY{out:List bO}{need:aC}{lo a j:Nat}(h:j<(vl out need lo a).length):(vl out need lo a)[j]=if lo<=j/\j<a then { At:=(out[j]'(by grind [Sd])).At,cy:=fG (out[j]'(by grind [Sd])).cy need } else out[j]'(by grind [Sd]):=by grind [vl]
theorem wo{out:List bO}{need:aC}{lo a j:Nat}(h:j<(vl out need lo a).length):(vl out need lo a)[j].At=(out[j]'(by grind [Sd])).At:=by grind [jY]
theorem Yc(out:List bO)(need:aC)(lo:Nat):vl out need lo lo=out:=yBZ Sd λj a d=>by rw[jY,if_neg (by omega)]
theorem Zz{out:List bO}{need:aC}{lo i:Nat}(h:lo+i<out.length):(vl out need lo (lo+i)).set (lo+i) { At:=out[lo+i].At,cy:=fG out[lo+i].cy need }=vl out need lo (lo+(i+1)):=yBZ (by simp[Sd]) λj a d=>by
 rw[List.getElem_set];split
 ·rename_i e;subst e;rw[jY,if_pos ⟨by omega,by omega⟩]
 ·rw[jY,jY]
  grind
def jU(a b:aC):Prop:=∀c,cmp c a<=cmp c b
theorem subR_ok{a b:aC}(d:aM a)(e:aM b)(h:jU b a):aM (fG a b):=vC.2 λc=>by have:=vC.1 d c;have:=vC.1 e c;have:=h c;rw[Aq];omega
structure Pg (l:List bO) (a b:Int) (need:aC) (r:List bO):Prop where
 ok:dP r
 len:r.length<=l.length+2
 first:∀(h:0<l.length)(h':0<r.length),r[0].At=l[0].At
 val:∀t v,yE l t v->yE r t (if a<=t/\t<b then fG v need else v)
theorem yc{l:List bO}(hl:l.length<=900)(hs:dP l){a b:Int}{need:aC}(L:aM need)(h0:(l[0]'hs.ne).At<=a)(ab:a<b)(hb:b<=281474976710656)
  (u:∀t v,a<=t->t<b->yE l t v->jU need v):bQ (oq 5000 l a b need) λr=>r.2=0/\Pg l a b need r.1:=by
 unfold oq zd0;have w:=hs.ne;obtain ⟨rn,en,M⟩:=Ut need;have:=M.2 L;subst this;simp only[gB];rw[jP (by omega) hs,aD,if_neg (by simp),en,aD,if_neg (by simp)];rw[show (0:Int)=((0:Nat):Int) from rfl,bZ w,aD,if_neg (by simp_all),WY];rw[kC];refine (lZ (by omega) hs h0 (by omega)).bind λo1 c1=>?_;have W:=c1.ok.ne;have f1:=c1.first w W;have l1:=c1.len;refine (lZ (by omega) c1.ok (t:=b) (by omega) hb).bind λout g=>?_;have n2:=g.ok.ne;have f2:=g.first W n2;have l2:=g.len;obtain ⟨sa,N,ad⟩:=c1.cD;obtain ⟨d,m,af⟩:=iX (g.RI sa N);obtain ⟨sb,O,ak⟩:=g.cD;obtain ⟨e,he,eb⟩:=iX O;have aa:out[d].At=a:=by simp_all
 have bb:out[e].At=b:=by simp_all
 have val:∀t v,yE l t v->yE out t v:=λt v h=>g.val t v (c1.val t v h);have S:∀j (h:j<out.length),a<=out[j].At->out[j].At<b->aM (fG out[j].cy need):=λj h y A=>by obtain ⟨v,E⟩:=yE.ex hs (t:=out[j].At) (by omega);have:=(val _ _ E).BG g.ok ⟨out[j],bG h,Jz _,λs' _ h=>h,rfl⟩;subst this;exact subR_ok (E.ok hs) L (u _ _ y A E)
 refine (zcV (by omega) g.ok a).bind λr p=>?_;obtain ⟨k,hk,rfl⟩:=p;have hp:=hk.pos g.ok (by omega);have an:=hk.le;have hm:k=d+1:=by
  rcases VV k (d+1) with h | h | h
  ·have:=hk.hi d m (by omega);omega
  ·exact h
  ·have:=hk.lo (k-1) (by omega) (by omega);have:=g.ok.lt (show d<k-1 by omega) (by omega);omega
 subst hm;have av:d<e:=by
  rcases VV d e with h | h | h
  ·exact h
  ·simp_all
  ·have:=g.ok.lt h m;omega
 rw[show ((d+1:Nat):Int)-1=(d:Int) by omega];have mid:∀j (h:j<out.length),d<=j->j<e->a<=out[j].At/\out[j].At<b:=λj h y A=>by have:=g.ok.le y h;have:=g.ok.lt A he;omega
 refine iS (e-d) (λi x=>x=(((d+i:Nat):Int),vl out need d (d+i))) (λi x f hi T p=>?_) (λx f T=>?_) (by rw[Nat.add_zero,Yc]) (by omega)
 ·subst T;have n:d+i<out.length:=by omega
  obtain ⟨y,A⟩:=mid (d+i) n (by omega) (by omega);have F:(vl out need d (d+i))[d+i]'(by grind [Sd])=out[d+i]:=by rw[jY,if_neg (by omega)]
  dsimp only;rw[bZ (show d+i<(vl out need d (d+i)).length by grind),aD,F,if_pos (by simp_all),aD];refine (ZY (g.ok.each _ (bG n)).2 L).bind λr G=>?_;have z:=G.1.2 (S _ n y A);rw[if_neg (by simp[z]),aD,G.2 z,bU (show d+i<1000000 by omega)]
  grind [Zz]
 ·subst T;rw[show d+(e-d)=e by omega];dsimp only;rw[bZ (show e<(vl out need d e).length by grind [Sd]),aD,wo,if_neg (by simp_all)];have Y:dP (vl out need d e):=by
   refine ⟨by grind [Sd],λi h=>?_,λs h=>?_⟩
   ·rw[wo,wo];exact g.ok.inc i (by grind [Sd])
   ·obtain ⟨j,n,rfl⟩:=iX h;have K:=n;rw[Sd] at K;have ej:=g.ok.each _ (bG K)
    grind [jY]
  refine (MK (by grind [Sd]) Y).bind λr p=>?_;rw[a_,a_];have rl:=p.len;rw[Sd] at rl;refine ⟨rfl,p.ok,by grind,λh Z=>?_,λt v E=>p.val _ _ ?_⟩
  ·have:=p.first Y.ne Z
   grind [wo]
  ·obtain ⟨s,h1,h2,h3,rfl⟩:=val t v E;obtain ⟨j,n,rfl⟩:=iX h1;have U:j<(vl out need d e).length:=by grind [Sd]
   refine ⟨(vl out need d e)[j],bG U,by grind [wo],λs' Z ht=>?_,?_⟩
   ·grind [List.getElem_of_mem,wo]
   ·rw[jY];have ka:a<=t↔d<=j:=by
     constructor
     ·intro h;have:=h3 out[d] (bG m) (by omega);rcases sO j d with q | q
      ·have:=g.ok.lt q m;omega
      omega
     ·intro h;have:=g.ok.le h n;omega
    have kb:t<b↔j<e:=by
     constructor
     ·intro h;rcases sO j e with q | q
      ·exact q
      ·have:=g.ok.le q n;omega
     grind
    grind
end Go.Plain
end
