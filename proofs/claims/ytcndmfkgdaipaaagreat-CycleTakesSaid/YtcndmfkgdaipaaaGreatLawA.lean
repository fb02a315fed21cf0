/- Lemmas. -/
import Derived.Test.YtcndmfkgdaipaaaGreatTyPure
import Derived.KernelRfl
import Derived.Laws.BitsLemmas
set_option linter.all false
open Go.IntKind (i64 u64)
section
namespace Go.Plain
open Go.Abs
instance glT:Gl:={ ok:=λ_ _=>True,mono:=λ_ _=>trivial }
theorem wr{x:Int}(a:-9223372036854775808<=x)(d:x<9223372036854775808):i64.wrap x=x:=by rw[IntKind.wrap_i64];omega
theorem bU{i:Nat}(h:i<1000000):i64.wrap ((i:Int)+1)=((i+1:Nat):Int):=by grind [wr]
theorem wp1{i:Nat}(h:i+1<1000000):i64.wrap (((i+1:Nat):Int)-1)=(i:Int):=by grind [wr]
theorem bY{α:Type}{l:List α}{i:Nat}(h:i<l.length):aE l (i:Int)=some l[i]:=by
 unfold aE
 simp_all
theorem FF{α:Type}{l:List α}{x:Int}(d:0<=x)(h:x<l.length):∃a:x.toNat<l.length,aE l x=some (l[x.toNat]'a):=by
 have a:x.toNat<l.length:=by omega
 refine ⟨a,?_⟩;unfold aE
 simp_all
theorem cR{i n:Nat}(h:i<n):decide ((i:Int)<(n:Int))=true:=by simp_all
theorem eL{n:Nat}:decide ((n:Int)<(n:Int))=false:=by simp
theorem Bi{α:Type}{l m:List α}(h:l.length+m.length<=1000000):cB l m=some (l++m):=by unfold cB;simp_all
theorem FR{α:Type}{m:List α}(h:m.length<=1000000):cB [] m=some m:=by grind [Bi]
theorem fA{X R:Type}(r:X->Option R)(b:(X->Option R)->Option R):jn r b=b r:=rfl
def bR{β:Type}(o:Option β)(Q:β->Prop):Prop:=∃r,o=some r/\Q r
abbrev gh(o:Option Bool)(P:Prop):Prop:=bR o λb=>b=true↔P
section
variable{α β γ σ:Type}{o:Option α}{P Q:α->Prop}
theorem bR.mono(h:bR o P)(i:∀r,P r->Q r):bR o Q:=by obtain ⟨r,j,s⟩:=h;exact ⟨r,j,i r s⟩
theorem bR.bind{f:α->Option β}{R:β->Prop}(h:bR o P)(i:∀r,P r->bR (f r) R):bR (o.bind f) R:=by obtain ⟨r,rfl,j⟩:=h;simp_all
theorem bg{r:α}:bR (some r) Q↔Q r:=by simp[bR]
theorem jV{f:α->Option β}{R:β->Prop}:bR (o.bind f) R↔bR o λr=>bR (f r) R:=by cases o <;> simp[bR]
theorem bx{c:Prop}[Decidable c]{a b:Option α}:bR (if c then a else b) Q↔(c->bR a Q)/\(¬c->bR b Q):=by grind
theorem bR.eq{r:α}(h:bR o λx=>x=r):o=some r:=by obtain ⟨_,h,rfl⟩:=h;exact h
end
section
variable{X R α:Type}{b:(X->Option R)->X->Option R}{Q:R->Prop}
theorem jj(n:Nat)(Inv:Nat->X->Prop)(hs:∀i x f,i<n->Inv i x->(∀d,Inv (i+1) d->bR (f d) Q)->bR (b f x) Q)
  (j:∀x f,Inv n x->bR (b f x) Q) {g:X} (l:Inv 0 g) {N:Nat} (m:n<N):bR (bF b N g) Q:=by
 have:∀k i x,i<=n->n<i+k->Inv i x->bR (bF b k x) Q:=by
  intro k;induction k with
  |zero=>omega
  |succ k ih=>
   intro i x h p hi;rcases WB h with a | rfl
   ·exact hs i x _ a hi λd e=>ih (i+1) d a (by omega) e
   ·exact j x _ hi
 grind
end
section
variable{R α:Type}{b:(Int->Option R)->Int->Option R}{Q:R->Prop}
theorem wi(l:List α)(A:Nat->α->Prop)
  (hs:∀i (f:Int->Option R) (h:i<l.length),(∀j (a:j<l.length),j<i->A j l[j])->(A i l[i]->bR (f ((i+1:Nat):Int)) Q)->bR (b f (i:Int)) Q)
  (k:∀f,(∀j (a:j<l.length),A j l[j])->bR (b f (l.length:Int)) Q) {N:Nat} (d:l.length<N):bR (bF b N 0) Q:=
 jj l.length (fun i x=>x=(i:Int)/\∀j (a:j<l.length),j<i->A j l[j])
  (fun i x f hi ⟨e,g⟩ m=>by
   grind)
  (fun x f ⟨e,g⟩=>by simp_all) ⟨rfl,fun j a h=>absurd h (by omega)⟩ d
end
theorem CI{α:Type}{l:List α}{A:α->Prop}(h:∀j (d:j<l.length),A l[j]):∀a∈l,A a:=λa e=>by grind [List.getElem_of_mem]
theorem Od{α:Type}{b:(Int->Option Bool)->Int->Option Bool}(l:List α)(A:α->Prop)(P:Prop)(j:P->∀a∈l,A a)
  (hs:∀(i:Nat)(f:Int->Option Bool)(h:i<l.length)(Q:Bool->Prop),(A l[i]->bR (f ((i+1:Nat):Int)) Q)->(¬A l[i]->Q false)->bR (b f (i:Int)) Q)
  (d:∀f,(∀a∈l,A a)->gh (b f (l.length:Int)) P) {N:Nat} (e:l.length<N):gh (bF b N 0) P:=
 wi l (λ_ a => A a) (λi f h _ g => hs i f h _ g λk => by
   grind)
  (λf h=>d f (CI h)) e
structure lX (s:bm):Prop where
 nodes:s.ai.length<=40
 parts:s.aH.length<=20
 iq:s.aq.length<=20
 part:∀p∈s.aH,p.length<=40
 queue:∀q∈s.aq,q.aR.length<=40
theorem few07(s:bm):bR (zeQ 5000 s) λr=>r=true->lX s:=by
 simp only[zeQ,bx,bg];refine ⟨by simp,λh=>?_⟩;simp only[gz,bz,not_or,Int.not_lt] at h;obtain ⟨⟨g,j⟩,k⟩:=h;refine wi s.aH (λ_ q=>q.length<=40) (λi f h _ a=>?_) (λf d=>?_) (by omega)
 ·simp only[cR h,if_true,bY h,aw,bU (show i<1000000 by omega),bx,bg,bz]
  grind
 ·simp only[eL,bX,cr];refine wi s.aq (λ_ q=>q.aR.length<=40) (λi f h _ a=>?_) (λf e=>?_) (by omega)
  ·simp only[cR h,if_true,bY h,aw,bU (show i<1000000 by omega),bx,bg,bz]
   grind
  ·simp only[eL,bX,cr,bg];exact λ_=>⟨by omega,by omega,by omega,CI d,CI e⟩
theorem few17(l:List aM):bR (zeM 5000 l) λr=>r=true->l.length<=30/\∀j∈l,j.aF.length<=10:=by
 simp only[zeM,bx,bg];refine ⟨by simp,λh=>?_⟩;simp only[bz] at h;refine wi l (λ_ q=>q.aF.length<=10) (λi f h _ d=>?_) (λf a=>?_) (by omega)
 ·simp only[cR h,if_true,bY h,aw,bU (show i<1000000 by omega),bx,bg,bz]
  grind
 ·simp only[eL,bX,cr,bg];exact λ_=>⟨by omega,CI a⟩
structure lw (s:bm) (st:ca):Prop where
 spec:lX s
 bq:st.aj.length<=300
 after:∀j∈st.aj,j.aF.length<=10
 cn:st.ae.length<=300
 cM:st.aB.length<=20
 use:st.kH.length<=20
 stamps:st.az.aq.length<=20
 shares:∀a∈st.ae,a.ah.length<=40
theorem lw.sh{s:bm}{st:ca}(h:lw s st):∀a∈st.ae,a.ah.length<=300:=λa i=>kj (h.shares a i) (by decide)
theorem few23(s:bm)(st:ca):bR (zcC 5000 s st) λr=>r=true->lw s st:=by
 simp only[zcC,fA];refine (few07 s).bind λr d=>?_;simp only[if_true,bg,bx];refine ⟨by simp,λh=>?_⟩;refine (few17 st.aj).bind λk a=>?_;simp only[im,nO] at h;have g:=d h;simp only[bx,bg];refine ⟨by simp,λh=>?_⟩;simp only[gz,bz,not_or,Int.not_lt,im,nO] at h;obtain ⟨⟨⟨⟨h,l⟩,m⟩,n⟩,p⟩:=h;have e:=a h;refine wi st.ae (λ_ q=>q.ah.length<=40) (λi f h _ d=>?_) (λf j=>?_) (by omega)
 ·simp only[cR h,if_true,bY h,aw,bU (show i<1000000 by omega),bx,bg,bz]
  grind
 ·simp only[eL,bX,cr,bg];exact λ_=>⟨g,kj e.1 (by decide),e.2,by omega,by omega,by omega,by omega,CI j⟩
def Nz(a hi x:Int):Bool:=decide (a<=x)&&decide (x<=hi)
structure aN (r:aD):Prop where
 FN:0<=r.bA/\r.bA<=1048576
 mem:0<=r.Mem/\r.Mem<=1048576
 IL:0<=r.bE/\r.bE<=1048576
 JZ:0<=r.bG/\r.bG<=1048576
theorem zm(r:aD):gh (ZB 5000 r) (aN r):=by simp only[ZB,zb1,bg,aw,bx,bI,bz,bX,ET,gh];refine ⟨λa=>⟨λd=>⟨λe=>⟨λf=>⟨a,d,e,f⟩,λh=>h.JZ⟩,λe h=>e h.IL⟩,λd h=>d h.mem⟩,λa h=>a h.FN⟩
theorem at4x0{a b c d:Int}:aE [a,b,c,d] 0=some a:=rfl
theorem at4x1{a b c d:Int}:aE [a,b,c,d] 1=some b:=rfl
theorem at4x2{a b c d:Int}:aE [a,b,c,d] 2=some c:=rfl
theorem at4x3{a b c d:Int}:aE [a,b,c,d] 3=some d:=rfl
theorem lpN(l:List Int)(d hi n:Int)(e:(l.length:Int)=n){E:Option Bool}{Q:Bool->Prop}(k:¬(∀a∈l,d<=a/\a<=hi)->Q false)(g:(∀a∈l,d<=a/\a<=hi)->bR E Q)(j:l.length<5000) :
  bR (bF (λ(f:Int->Option Bool) (x:Int)=>if (decide (x<n))=true then (aE l x).bind λy=>if ((decide (y<d)) || (decide (y > hi)))=true then some false else f (i64.wrap (x+1)) else E) 5000 0) Q:=by
 subst e;refine wi l (λ_ a=>d<=a/\a<=hi) (λi f h _ m=>?_) (λf h=>?_) j
 ·simp only[cR h,if_true,bY h,aw,bU (show i<1000000 by omega),bx,bg,gz,bz]
  grind
 ·simp only[eL,bX,cr];exact g (CI h)
theorem yV{a b c d e hi:Int}:(∀x∈[a,b,c,d],e<=x/\x<=hi)↔(e<=a/\a<=hi)/\(e<=b/\b<=hi)/\(e<=c/\c<=hi)/\(e<=d/\d<=hi):=by simp
theorem Hu{a b c d hi:Int}:(∀x∈[a,b,c],d<=x/\x<=hi)↔(d<=a/\a<=hi)/\(d<=b/\b<=hi)/\(d<=c/\c<=hi):=by simp
theorem Uf(r:aD):gh (NA 5000 r) (aN r):=by
 simp only[NA,gg,aw];refine lpN [r.bA,r.Mem,r.bE,r.bG] 0 1048576 4 rfl (λh=>?_) (λh=>?_) (by simp)
 ·simp only[bX,ET];exact λv=>h (yV.2 ⟨v.FN,v.mem,v.IL,v.JZ⟩)
 ·rw[bg];obtain ⟨a,d,e,f⟩:=yV.1 h;exact ⟨λ_=>⟨a,d,e,f⟩,λ_=>rfl⟩
def bP:aD:={ bA:=0,Mem:=0,bE:=0,bG:=0 }
theorem fy{a b:aD}:aD.beq a b=true↔a=b:=by obtain ⟨d,e,f,g⟩:=a;obtain ⟨h,i,j,k⟩:=b;simp[aD.beq]
def Kb(l:List Int):Nat->Int
 |0=>-1
 |i+1=>l[i]?.getD 0
theorem pR{l:List Int}{i:Nat}(h:i<l.length):Kb l (i+1)=l[i]:=by simp[Kb,h]
def mn(l:List Int)(n:Int):Prop:=∀i (h:i<l.length),Kb l i<l[i]/\l[i]<n
theorem mn.nn{l:List Int}{n:Int}(h:∀i (hi:i<l.length),Kb l i<l[i]):∀i (hi:i<l.length),0<=l[i]:=by
 intro i;induction i with
 |zero=>grind [Kb]
 |succ i ih=>grind [pR]
theorem mn.mem{l:List Int}{n:Int}(h:mn l n):∀x∈l,0<=x/\x<n:=λx j=>by obtain ⟨i,hi,rfl⟩:=iW j;exact ⟨mn.nn (n:=n) (λi hi=>(h i hi).1) i hi,(h i hi).2⟩
theorem ascending(l:List Int)(n:Int)(hl:l.length<99):gh (zew 5000 l n) (mn l n):=by
 simp only[zew];refine jj l.length (λi x=>x=(Kb l i,(i:Int))/\∀j (d:j<l.length),j<i->Kb l j<l[j]/\l[j]<n) (λi x f hi a g=>?_) (λx f a=>?_) ⟨rfl,λj d h=>by omega⟩ (by omega)
 ·obtain ⟨rfl,e⟩:=a;simp only[cR hi,if_true,bY hi,aw,bU (show i<1000000 by omega),bx,bg,gz,bz];refine ⟨λh=>?_,λh=>g _ ⟨by rw[pR hi],λj d k=>?_⟩⟩
  ·simp only[bX,ET];intro m;have:=m i hi;omega
  grind
 ·obtain ⟨rfl,e⟩:=a;simp only[eL,bX,cr,bg,Oj];exact λi hi=>e i hi hi
theorem Ep(l:List Int)(n:Int)(hl:l.length<99):gh (zcl 5000 l n) (mn l n):=by
 simp only[zcl,fA];refine wi l (λi a=>Kb l i<a/\a<n) (λi f h r e=>?_) (λf h=>?_) (by omega)
 ·have g:decide ((i:Int) > 0)=decide (0<i):=by simp
  simp only[cR h,if_true,bY h,aw,bU (show i<1000000 by omega),bx,bg,bz,g,bX,cr];have bad:¬(Kb l i<l[i]/\l[i]<n)->(False↔mn l n):=λj=>by simp only[ET];exact λd=>j (d i h)
  refine ⟨λk=>?_,λk=>⟨λp=>bad (by omega),λp=>⟨λq=>?_,λq=>?_⟩⟩⟩
  ·simp only[ET];intro d;have:=(d.mem _ (bC h)).1;omega
  ·obtain ⟨m,rfl⟩:∃m,i=m+1:=⟨i-1,by omega⟩;rw[wp1 (show m+1<1000000 by omega),bY (show m<l.length by omega)];rw[pR (by omega)] at bad e;simp only[aw,bx,bz,bg,bX]
   simp_all
  grind [Kb]
 ·simp only[eL,bX,cr,bg,Oj];exact h
structure nY (s:bm):Prop where
 lo:1<=s.ai.length
 hi:s.ai.length<=16
 ok:∀r∈s.ai,aN r
theorem PI(s:bm):gh (fH 5000 s) (nY s):=by
 simp only[fH,bx,bg];refine ⟨λh=>?_,λh=>?_⟩
 ·simp only[gz,bz] at h;simp only[bX,ET]
  grind [nY.lo,nY.hi]
 ·simp only[gz,bz,not_or] at h;refine Od s.ai aN _ (λk=>k.ok) (λi f a Q e g=>?_) (λf d=>?_) (by omega)
  ·simp only[cR a,if_true,bY a,aw,bU (show i<1000000 by omega)];refine (Uf _).bind λr j=>?_;simp only[bx,bg,im,nO]
   grind
  ·simp only[eL,bX,cr,bg,Oj];exact ⟨by omega,by omega,d⟩
theorem SY(s:bm)(hs:lX s):gh (zcO 5000 s) (nY s):=by
 have:=hs.nodes;simp only[zcO];refine Od s.ai aN _ (λk=>k.ok) (λi f a Q e g=>?_) (λf d=>?_) (by omega)
 ·simp only[cR a,if_true,bY a,aw,bU (show i<1000000 by omega)];refine (zm _).bind λr j=>?_;simp only[bx,bg,im,nO]
  grind
 ·simp only[eL,bX,cr,Ae,aw,bg,bI,bz];exact ⟨λh=>⟨by omega,by omega,d⟩,λh=>by grind [nY.lo,nY.hi]⟩
structure nL (s:bm):Prop where
 lo:1<=s.aH.length
 hi:s.aH.length<=8
 ok:∀p∈s.aH,1<=p.length/\mn p s.ai.length
theorem Oa(s:bm)(hs:lX s):gh (fB 5000 s) (nL s):=by
 simp only[fB,fA,bx,bg];refine ⟨λh=>?_,λh=>?_⟩
 ·simp only[gz,bz] at h;simp only[bX,ET]
  grind [nL.lo,nL.hi]
 ·simp only[gz,bz,not_or] at h;refine Od s.aH (λp=>1<=p.length/\mn p s.ai.length) _ (λk=>k.ok) (λi f a Q j d=>?_) (λf g=>?_) (by omega)
  ·have:=hs.part _ (bC a);simp only[cR a,if_true,bY a,aw,bU (show i<1000000 by omega),bx,bg,bz];refine ⟨λe=>d (by omega),λe=>?_⟩;refine (ascending _ _ (by omega)).bind λr l=>?_;simp only[bx,bg,im,nO]
   grind
  ·simp only[eL,bX,cr,bg,Oj];exact ⟨by omega,by omega,g⟩
theorem Uj(s:bm)(hs:lX s):gh (zcP 5000 s) (nL s):=by
 have:=hs.parts;simp only[zcP,fA];refine Od s.aH (λp=>1<=p.length/\mn p s.ai.length) _ (λk=>k.ok) (λi f a Q j d=>?_) (λf g=>?_) (by omega)
 ·have:=hs.part _ (bC a);simp only[cR a,if_true,bY a,aw,bU (show i<1000000 by omega),bx,bg,bz];refine ⟨λe=>d (by omega),λe=>?_⟩;refine (Ep _ _ (by omega)).bind λr l=>?_;simp only[bx,bg,im,nO]
  grind
 ·simp only[eL,bX,cr,Ae,aw,bg,bI,bz];exact ⟨λh=>⟨by omega,by omega,g⟩,λh=>by grind [nL.lo,nL.hi]⟩
structure zO (s:bm) (q:xL):Prop where
 part:0<=q.Part/\q.Part<s.aH.length
 Aa:mn q.aR s.aR
 bq:1<=q.jv/\q.jv<=256
 run:1<=q.l_/\q.l_<=256
 user:1<=q.ig/\q.ig<=256
 qos:0<=q.fC/\q.fC<=100
structure qe (s:bm):Prop where
 lo:1<=s.aq.length
 hi:s.aq.length<=8
 ok:∀q∈s.aq,zO s q
theorem Mz(s:bm)(hs:lX s):gh (zeL 5000 s) (qe s):=by
 simp only[zeL,fA,bx,bg];refine ⟨λh=>?_,λh=>?_⟩
 ·simp only[gz,bz] at h;simp only[bX,ET]
  grind [qe.lo,qe.hi]
 ·simp only[gz,bz,not_or] at h;refine Od s.aq (zO s) _ (λk=>k.ok) (λi f a Q l d=>?_) (λf m=>?_) (by omega)
  ·have:=hs.queue _ (bC a);simp only[cR a,if_true,bY a,aw,bU (show i<1000000 by omega),bX,cr];rw[bx];refine ⟨λe=>?_,λe=>?_⟩
   ·simp only[gz,bz] at e;rw[bg];exact d λk=>by have:=k.part;omega
   ·simp only[gz,bz,not_or] at e;refine (ascending _ _ (by omega)).bind λr n=>?_;rw[bx];refine ⟨λg=>?_,λg=>?_⟩
    ·grind [bg,zO.Aa]
    ·simp only[im,nO] at g;refine lpN [_,_,_] 1 256 3 rfl (λp=>d λk=>p (Hu.2 ⟨k.bq,k.run,k.user⟩)) (λq=>?_) (by simp);obtain ⟨t,u,v⟩:=Hu.1 q;rw[bx];refine ⟨λj=>?_,λj=>?_⟩
     ·simp only[gz,bz] at j;rw[bg];exact d λk=>by have:=k.qos;omega
     ·simp only[gz,bz,not_or] at j;exact l ⟨by omega,n.1 g,t,u,v,by omega⟩
  ·simp only[eL,bX,cr,bg,Oj];exact ⟨by omega,by omega,m⟩
theorem PP(s:bm)(hs:lX s):gh (zct 5000 s) (qe s):=by
 have:=hs.iq;simp only[zct,fA];refine Od s.aq (zO s) _ (λk=>k.ok) (λi f d Q j a=>?_) (λf l=>?_) (by omega)
 ·have:=hs.queue _ (bC d);simp only[cR d,if_true,bY d,aw,bU (show i<1000000 by omega),bX,cr];rw[bx];refine ⟨λe=>?_,λe=>?_⟩
  ·simp only[gz,bz] at e;rw[bg];exact a λk=>by have:=k.part;omega
  ·simp only[gz,bz,not_or] at e;refine (Ep _ _ (by omega)).bind λr m=>?_;simp only[Ae,aw,bx,bg,im,nO,bI,bz,yBB,yBo];refine ⟨λg=>a λk=>by grind [zO.Aa],λg=>⟨λn=>a λk=>by have:=k.bq;omega,λn=>⟨λp=>a λk=>by have:=k.run;omega,λp=>⟨λq=>a λk=>by have:=k.user;omega,λq=>⟨λt=>a λk=>by have:=k.qos;omega,λt=>?_⟩⟩⟩⟩⟩;exact j ⟨by omega,m.1 g,by omega,by omega,by omega,by omega⟩
 ·simp only[eL,bX,cr,Ae,aw,bg,bI,bz];exact ⟨λh=>⟨by omega,by omega,l⟩,λh=>by have:=h.lo;have:=h.hi;omega⟩
structure Ak (w:Pt):Prop where
 age:0<=w.kF/\w.kF<=1000
 size:0<=w.cT/\w.cT<=1000
 qos:0<=w.fC/\w.fC<=1000
 share:0<=w.bL/\w.bL<=1000
theorem IN(w:Pt):gh (zen 5000 w) (Ak w):=by
 simp only[zen];refine lpN [w.kF,w.cT,w.fC,w.bL] 0 1000 4 rfl (λh=>?_) (λh=>?_) (by simp)
 ·simp only[bX,ET];exact λv=>h (yV.2 ⟨v.age,v.size,v.qos,v.share⟩)
 ·rw[bg];obtain ⟨a,d,e,f⟩:=yV.1 h;exact ⟨λ_=>⟨a,d,e,f⟩,λ_=>rfl⟩
structure br (s:bm):Prop where
 nodes:nY s
 parts:nL s
 Aa:1<=s.aR/\s.aR<=8
 iq:qe s
 weights:Ak s.am
 decay:1<=s.bS/\s.bS<=16
 mode:s.Mode=1\/s.Mode=2
 bq:1<=s.aj/\s.aj<=256
 ids:1<=s.jG/\s.jG<=1048576
 tO:1<=s.aI/\s.aI<=65536
 Xv:0<=s.bo/\s.bo<=65536
 keep:1<=s.dg/\s.dg<=16
 Nz:1<=s.In/\s.In<=8
 out:1<=s.Out/\s.Out<=16
 cache:0<=s.bT/\s.bT<=16
theorem qq(s:bm)(hs:lX s):gh (OW 5000 s) (br s):=by
 simp only[OW,Ay];obtain ⟨N,z,m⟩:=PI s;obtain ⟨O,A,n⟩:=Oa s hs;obtain ⟨S,E,q⟩:=Mz s hs;obtain ⟨U,F,r⟩:=IN s.am;simp only[z,A,E,F,aw];have T:∀(x:ByteArray),x.toList≠[]->(¬br s)->bR ((some x).bind λa=>some (a.toList == (⟨#[]⟩:ByteArray).toList)) λb=>b=true↔br s:=λx G W=>by
  rw[aw,bg]
  simp_all
 have step:∀(c:Bool)(x:ByteArray)(o:Option ByteArray),x.toList.isEmpty=false->(c=false->¬br s)->(c=true->bR (o.bind λa=>some (a.toList == (⟨#[]⟩:ByteArray).toList)) λb=>b=true↔br s) ->
   bR ((if (!c)=true then some x else o).bind λa=>some (a.toList == (⟨#[]⟩:ByteArray).toList)) λb=>b=true↔br s:=λc x o G m n=>by
  grind
 have nb:∀{b:Bool}{p:Prop},(b=true↔p)->b=false->¬p:=λh e Y=>by simp_all
 refine step _ _ _ (by kernel_rfl) (λe k=>nb m e k.nodes) λc1=>?_;refine step _ _ _ (by kernel_rfl) (λe k=>nb n e k.parts) λK=>?_;refine step _ _ _ (by kernel_rfl) (λe k=>by grind [br.Aa]) λt=>?_;refine step _ _ _ (by kernel_rfl) (λe k=>nb q e k.iq) λL=>?_;refine step _ _ _ (by kernel_rfl) (λe k=>nb r e k.weights) λM=>?_;refine step _ _ _ (by kernel_rfl) (λe k=>by grind [br.decay]) λu=>?_;refine step _ _ _ (by kernel_rfl) (λe k=>by grind [br.mode]) λv=>?_;refine step _ _ _ (by kernel_rfl) (λe k=>by grind [br.bq]) λw=>?_;refine step _ _ _ (by kernel_rfl) (λe k=>by grind [br.ids]) λy=>?_;refine step _ _ _ (by kernel_rfl) (λe k=>by grind [br.tO]) λd=>?_;refine step _ _ _ (by kernel_rfl) (λe k=>by grind [br.Xv]) λf=>?_;refine step _ _ _ (by kernel_rfl) (λe k=>by grind [br.keep]) λg=>?_;refine step _ _ _ (by kernel_rfl) (λe k=>by grind [br.Nz]) λi=>?_;refine step _ _ _ (by kernel_rfl) (λe k=>by grind [br.out]) λj=>?_;refine step _ _ _ (by kernel_rfl) (λe k=>by grind [br.cache]) λl=>?_;rw[aw,bg];simp only[yCp,Oj];simp only[bI,gz,bz,nh] at t u v w y d f g i j l;exact ⟨m.1 c1,n.1 K,t,q.1 L,r.1 M,u,v,w,y,d,f,g,i,j,l⟩
theorem LN{n:Nat}(hN:15<n){s:bm}{g j m:Bool}(T:zcO n s=some g)(F:g=true↔nY s)(U:zcP n s=some j)(G:j=true↔nL s)(W:zct n s=some m)(K:m=true↔qe s):gh (zcK n s) (br s):=by
 simp only[zcK,iA,T,U,W,aw,Ae,fA];have d:∀w:Bool,(w=true↔Ak s.am)->∀(L:List Bool)(M:List ByteArray),L=[g,j,decide (1<=s.aR)&&decide (s.aR<=8),m,w,decide (1<=s.bS)&&decide (s.bS<=16),decide (1<=s.Mode)&&decide (s.Mode<=2),decide (1<=s.aj)&&decide (s.aj<=256),decide (1<=s.jG)&&decide (s.jG<=1048576),decide (1<=s.aI)&&decide (s.aI<=65536),decide (0<=s.bo)&&decide (s.bo<=65536),decide (1<=s.dg)&&decide (s.dg<=16),decide (1<=s.In)&&decide (s.In<=8),decide (1<=s.Out)&&decide (s.Out<=16),decide (0<=s.bT)&&decide (s.bT<=16)] ->
   (∀x∈M,x.toList≠[])->M.length=15 ->
   bR ((bF (λ(p:Int->Option ByteArray) (e:Int)=>if (decide (e<15))=true then (aE L e).bind λq=>if (!q)=true then (aE M e).bind λr=>some r else p (i64.wrap (e+1)) else some (⟨#[]⟩:ByteArray)) n 0).bind λY=>some (Y.toList == (⟨#[]⟩:ByteArray).toList)) λb=>b=true↔br s:=by
  intro w N L M Z hM O;have S:L.length=15:=by simp_all
  have t:(15:Int)=(L.length:Int):=by omega
  have all:(∀x∈L,x=true)↔br s:=by
   rw[Z];simp only[gu,Ms,MK,forall_eq_or_imp,forall_eq,bI,bz];constructor
   ·rintro ⟨c1,c2,c3,c4,c5,c6,c7,c8,c9,u,v,y,z,A,E⟩;exact ⟨F.1 c1,G.1 c2,c3,K.1 c4,N.1 c5,c6,by omega,c8,c9,u,v,y,z,A,E⟩
   ·intro k;have:=k.mode;exact ⟨F.2 k.nodes,G.2 k.parts,k.Aa,K.2 k.iq,N.2 k.weights,k.decay,by omega,k.bq,k.ids,k.tO,k.Xv,k.keep,k.Nz,k.out,k.cache⟩
  rw[jV,t];have nil:(⟨#[]⟩:ByteArray).toList=[]:=by kernel_rfl
  refine wi L (λ_ x=>x=true) (λi f h _ hr=>?_) (λf hA=>?_) (by omega)
  ·simp only[cR h,if_true,bY h,bY (l:=M) (show i<M.length by omega),aw,bU (show i<1000000 by omega),bx,bg,im,nO,nil,nh] at hr ⊢
   grind [List.getElem_mem]
  ·simp only[eL,bX,cr,bg,yCp,Oj];exact all.1 (CI hA)
 have a:∀x∈([(⟨#[78,111,100,101,115]⟩:ByteArray),(⟨#[80,97,114,116,115]⟩:ByteArray),(⟨#[85,115,101,114,115]⟩:ByteArray),(⟨#[81,117,101,117,101,115]⟩:ByteArray),(⟨#[87,101,105,103,104,116,115]⟩:ByteArray),(⟨#[68,101,99,97,121]⟩:ByteArray),(⟨#[77,111,100,101]⟩:ByteArray),(⟨#[74,111,98,115]⟩:ByteArray),(⟨#[73,100,115]⟩:ByteArray),(⟨#[86,101,114,115,105,111,110,115]⟩:ByteArray),(⟨#[76,105,110,103,101,114]⟩:ByteArray),(⟨#[75,101,101,112]⟩:ByteArray),(⟨#[73,110]⟩:ByteArray),(⟨#[79,117,116]⟩:ByteArray),(⟨#[67,97,99,104,101]⟩:ByteArray)]:List ByteArray),x.toList≠[]:=by simp_all
 split
 ·rename_i w1;split
  ·rename_i w2;split
   ·rename_i w3;refine d _ ?_ _ _ rfl a rfl;simp only[bI,bz] at w1 w2 w3 ⊢;exact ⟨λw4=>⟨w1,w2,w3,w4⟩,λk=>k.share⟩
   ·rename_i w3;refine d _ ?_ _ _ rfl a rfl;simp only[bI,bz] at w3;simp only[bX,ET];exact λk=>w3 k.qos
  ·rename_i w2;refine d _ ?_ _ _ rfl a rfl;simp only[bI,bz] at w2;simp only[bX,ET];exact λk=>w2 k.size
 ·rename_i w1;refine d _ ?_ _ _ rfl a rfl;simp only[bI,bz] at w1;simp only[bX,ET];exact λk=>w1 k.age
theorem Tl(s:bm)(hs:lX s):gh (zcK 5000 s) (br s):=by
 obtain ⟨a,d,e⟩:=SY s hs;obtain ⟨f,g,h⟩:=Uj s hs;obtain ⟨i,j,k⟩:=PP s hs
 grind [LN]
structure Au (L:List (Int×Int)) (k:Int):Prop where
 lo:0<=k
 hi:k<=64
 fit:∀p∈L,k * p.2<=p.1
 max:k<64->∃p∈L,p.1<(k+1) * p.2
theorem Au.Al{L:List (Int×Int)}{k i:Int}(s:∀p∈L,0<=p.2)(h:Au L k)(A:Au L i):k=i:=by
 have u:∀{a b:Int},Au L a->Au L b->¬a<b:=λ{a b} x hb z=>by obtain ⟨p,j,E⟩:=x.max (by have:=hb.hi;omega);have F:=hb.fit p j;have G:(a+1) * p.2<=b * p.2:=yAW (by omega) (s p j);omega
 grind
theorem Au.nil:Au [] 64:=⟨by omega,by omega,by simp,by simp⟩
def qm(n a b:Int):Int:=if b > 0 then (if a.tdiv b<n then a.tdiv b else n) else n
theorem Au.step{L:List (Int×Int)}{k a b:Int}(h:Au L k)(z:∀p∈L,0<=p.2)(s:0<=a)(hb:0<=b):Au (L++[(a,b)]) (qm k a b):=by
 unfold qm;have u:=h.lo;have x:=h.hi;split
 ·rename_i j;rw[Int.tdiv_eq_ediv_of_nonneg s];have K:a / b * b<=a:=Int.ediv_mul_le a (by omega);have A:a<(a / b+1) * b:=Int.lt_ediv_add_one_mul_self a j;have E:0<=a / b:=Int.ediv_nonneg s (by omega);split
  ·rename_i F;refine ⟨E,by omega,λp i=>?_,λ_=>⟨(a,b),by simp,A⟩⟩;rcases ld.1 i with i | i
   ·have:=h.fit p i;have:a / b * p.2<=k * p.2:=yAW (by omega) (z p i);omega
   simp_all
  ·rename_i G;refine ⟨u,x,λp i=>?_,λhk=>?_⟩
   ·rcases ld.1 i with i | i
    ·exact h.fit p i
    ·simp only[zK] at i;subst i;have:k * b<=a / b * b:=yAW (by omega) (by omega)
     grind
   ·obtain ⟨p,i,q⟩:=h.max hk
    grind
 ·rename_i j;have:b=0:=by omega
  subst this;refine ⟨u,x,λp i=>?_,λhk=>?_⟩
  ·rcases ld.1 i with i | i
   ·exact h.fit p i
   simp_all
  ·obtain ⟨p,i,q⟩:=h.max hk
   grind
theorem Ou{n a b:Int}(h:b > 0):qm n a b=if a.tdiv b<n then a.tdiv b else n:=by unfold qm;omega
theorem Qf{n a b:Int}(h:¬b > 0):qm n a b=n:=by unfold qm;omega
def ER(a b:aD):List (Int×Int):=[(a.bA,b.bA),(a.Mem,b.Mem),(a.bE,b.bE),(a.bG,b.bG)]
def dL(a b:aD):Int:=qm (qm (qm (qm 64 a.bA b.bA) a.Mem b.Mem) a.bE b.bE) a.bG b.bG
theorem vz{a b:aD}(d:aN a)(hb:aN b):Au (ER a b) (dL a b):=by have e:=Au.nil;have f:=e.step (by simp) d.FN.1 hb.FN.1;have g:=f.step (by simp;exact hb.FN.1) d.mem.1 hb.mem.1;have h:=g.step (by simp;exact ⟨hb.FN.1,hb.mem.1⟩) d.IL.1 hb.IL.1;have i:=h.step (by simp;exact ⟨hb.FN.1,hb.mem.1,hb.IL.1⟩) d.JZ.1 hb.JZ.1;exact i
theorem w1:i64.wrap (0+1)=1:=rfl
theorem w2:i64.wrap (1+1)=2:=rfl
theorem w3:i64.wrap (2+1)=3:=rfl
theorem w4:i64.wrap (3+1)=4:=rfl
theorem wq{a b:Int}(d:0<=a/\a<=1048576)(hb:0<b):MW .i64 a b=some (a.tdiv b):=by
 unfold MW;rw[if_neg (by omega)];have e:0<=a / b:=Int.ediv_nonneg d.1 (by omega);have f:a / b<=a:=Int.ediv_le_self b d.1
 grind [wr]
def stc(a b:aD):Nat->Int
 |0=>64
 |1=>qm 64 a.bA b.bA
 |2=>qm (qm 64 a.bA b.bA) a.Mem b.Mem
 |3=>qm (qm (qm 64 a.bA b.bA) a.Mem b.Mem) a.bE b.bE
 |_=>dL a b
theorem count{a b:aD}(g:aN a)(hb:aN b)(p:b≠bP):lK 5000 a b=some (dL a b):=by
 obtain ⟨q,h,j⟩:=Uf a;obtain ⟨r,k,l⟩:=Uf b;have m:=j.2 g;have n:=l.2 hb;subst m n;have d:aD.beq b bP=false:=by grind [fy]
 simp only[lK,fA,h,k,aw,Ny,bX,cr,Bool.false_or,gg];change (if aD.beq b bP=true then some 0 else _)=_;rw[d];simp only[bX,cr];refine bR.eq (jj 4 (λi x=>x=(stc a b i,(i:Int))) (λi x f hi e s=>?_) (λx f e=>?_) rfl (by omega))
 ·subst e;rcases (show i=0\/i=1\/i=2\/i=3 by omega) with rfl | rfl | rfl | rfl
  ·rw[show ((0:Nat):Int)=0 from rfl];simp only[show decide ((0:Int)<4)=true from rfl,if_true,at4x0,aw,w1,bx,bz]
   grind [stc,qm,wq,aN.FN]
  ·rw[show ((1:Nat):Int)=1 from rfl];simp only[show decide ((1:Int)<4)=true from rfl,if_true,at4x1,aw,w2,bx,bz]
   grind [stc,Qf,wq,aN.mem,Ou]
  ·rw[show ((2:Nat):Int)=2 from rfl];simp only[show decide ((2:Int)<4)=true from rfl,if_true,at4x2,aw,w3,bx,bz]
   grind [stc,Qf,wq,aN.IL,Ou]
  ·rw[show ((3:Nat):Int)=3 from rfl];simp only[show decide ((3:Int)<4)=true from rfl,if_true,at4x3,aw,w4,bx,bz]
   grind [stc,dL,Qf,wq,aN.JZ,Ou]
 ·subst e;simp only[show decide (((4:Nat):Int)<4)=false from rfl,bX,cr,bg];rfl
theorem Hv{b:aD}(hb:aN b):Pq 5000 b bP=some (decide (b=bP)):=by
 simp only[Pq,au];have:=hb.FN;have:=hb.mem;have:=hb.IL;have:=hb.JZ;rw[Bool.eq_iff_iff];simp only[bI,bz];obtain ⟨a,d,e,f⟩:=b
 grind [bP]
theorem AM{a b:aD}(g:aN a)(hb:aN b)(w:b≠bP):zbz 5000 a b=some (dL a b):=by
 obtain ⟨T,z,t⟩:=zm a;obtain ⟨U,A,u⟩:=zm b;have E:=t.2 g;have F:=u.2 hb;subst E F;simp only[zbz,fA,z,A,aw,Ny,bX,cr];have G:Pq 5000 b ({ bA:=0,Mem:=0,bE:=0,bG:=0 }:aD)=some (decide (b=bP)):=Hv hb;rw[G];simp only[aw,w,decide_false,bX,cr];have W:=g.FN;have Y:=g.mem;have Z:=g.IL;have hl:=g.JZ;have l:=hb.FN;have m:=hb.mem;have n:=hb.IL;have q:=hb.JZ;have K:∀p∈ER a b,0<=p.2:=by
  intro p e;simp only[ER,gu,Ms,MK] at e;rcases e with rfl | rfl | rfl | rfl
  ·omega
  ·omega
  ·omega
  omega
 have done:∀k:Int,Au (ER a b) k->k=dL a b:=λk hk=>hk.Al K (vz g hb);have d:∀{i:Nat}{y:Int},i<=65->0<=y/\y<=1048576->0<=(i:Int) * y/\(i:Int) * y<=68157440:=λ{i y} hi v=>by have t:0<=(i:Int) * y:=yBY (by omega) v.1;have u:(i:Int) * y<=65 * y:=yAW (by omega) v.1;omega
 refine bR.eq (jj 64 (λi x=>x=((i:Int),((i+1:Nat):Int) * b.bA,((i+1:Nat):Int) * b.Mem,((i+1:Nat):Int) * b.bE,((i+1:Nat):Int) * b.bG)/\∀p∈ER a b,(i:Int) * p.2<=p.1) (λi x f hi r L=>?_) (λx f r=>?_) ⟨by simp,λp e=>?_⟩ (by omega))
 ·obtain ⟨rfl,s⟩:=r;have m1:=d (i:=i+1) (by omega) l;have m2:=d (i:=i+1) (by omega) m;have m3:=d (i:=i+1) (by omega) n;have m4:=d (i:=i+1) (by omega) q;have j:∀y:Int,((i+1:Nat):Int) * y+y=((i+1+1:Nat):Int) * y:=λy=>by
   grind
  simp only[show decide ((i:Int)<64)=true by grind,if_true,Pq,aw,RY,bx,bg,bI,bz,bU (show i<1000000 by omega)];rw[wr (by omega) (by omega),wr (by omega) (by omega),wr (by omega) (by omega),wr (by omega) (by omega),j,j,j,j];refine ⟨λh=>L _ ⟨rfl,λp e=>?_⟩,λh=>done _ ⟨by omega,by omega,s,λ_=>?_⟩⟩
  ·simp only[ER,gu,Ms,MK] at e;rcases e with rfl | rfl | rfl | rfl
   ·simp_all
   ·simp_all
   ·simp_all
   simp_all
  ·rw[show ((i:Int)+1)=((i+1:Nat):Int) by omega];by_cases M:a.bA<((i+1:Nat):Int) * b.bA
   ·exact ⟨(a.bA,b.bA),by simp[ER],M⟩
   by_cases N:a.Mem<((i+1:Nat):Int) * b.Mem
   ·exact ⟨(a.Mem,b.Mem),by simp[ER],N⟩
   by_cases O:a.bE<((i+1:Nat):Int) * b.bE
   ·exact ⟨(a.bE,b.bE),by simp[ER],O⟩
   by_cases S:a.bG<((i+1:Nat):Int) * b.bG
   ·exact ⟨(a.bG,b.bG),by simp[ER],S⟩
   omega
 ·obtain ⟨rfl,s⟩:=r;simp only[show decide (((64:Nat):Int)<64)=false from rfl,bX,cr,bg];exact done _ ⟨by omega,by omega,s,λh=>by omega⟩
 ·simp only[ER,gu,Ms,MK] at e
  grind
def BC(s:bm)(l:List Int)(need:aD):Int:=(l.map λn=>dL ((s.ai[n.toNat]?).getD bP) need).sum
theorem Pj{a b:aD}(d:aN a)(hb:aN b):0<=dL a b/\dL a b<=64:=⟨(vz d hb).lo,(vz d hb).hi⟩
theorem HG{s:bm}{need:aD}(k:br s)(n:aN need)(E:need≠bP){l:List Int}(hl:l.length<=300)(p:mn l s.ai.length)(C:aD->Option Int)(r:∀a,aN a->C a=some (dL a need)) :
  bF (λ(t:Int×Int->Option Int) (g:Int×Int)=>if (decide (g.2<(l.length:Int)))=true then (aE l g.2).bind λu=>(aE s.ai u).bind λv=>(C v).bind λw=>t ((i64.wrap (g.1+w)),(i64.wrap (g.2+1))) else some g.1) 5000 (0,0)=some (BC s l need):=by
 have z:∀(m:List Int),(∀x∈m,x∈l)->0<=BC s m need/\BC s m need<=64 * m.length:=by
  intro m;induction m with
  |nil=>grind [BC]
  |cons x m ih=>
   intro h;have F:=ih λy A=>h y (nS _ A);have q:=p.mem x (h x (rJ ..));have d:x.toNat<s.ai.length:=by omega
   have:=Pj (k.nodes.ok (s.ai[x.toNat]) (bC d)) n
   grind [BC]
 refine bR.eq (jj l.length (λi x=>x=(BC s (l.take i) need,(i:Int))) (λi x f hi d j=>?_) (λx f d=>?_) (by grind) (by omega))
 ·subst d;have q:=p.mem l[i] (bC hi);obtain ⟨d,e⟩:=FF q.1 q.2;have c:=Pj (k.nodes.ok (s.ai[l[i].toNat]) (bC d)) n;have b:=z (l.take i) λx d=>Ky d;have G:((l.take i).length:Int)<=300:=by grind
  simp only[cR hi,if_true,bY hi,aw,e,r _ (k.nodes.ok _ (bC d)),bU (show i<1000000 by omega)];rw[wr (by omega) (by omega)];refine j _ ?_;congr 1;rw[Fk hi];simp only[BC,yBL,ql,List.map_nil,List.sum_append,yCw,List.sum_nil,eK d,Rm];omega
 ·subst d;simp only[eL,bX,cr,bg,xr]
theorem Qw{s:bm}(hs:lX s)(k:br s){q m:Int}{need:aD}(d:aN need)(f:need≠bP):∃b,jk 5000 s q m need=some b/\zdf 5000 s q m need=some b:=by
 obtain ⟨v,h,r⟩:=qq s hs;have t:=r.2 k;subst t;by_cases j:0<=q/\q<s.aq.length/\1<=m
 ·obtain ⟨u,e⟩:=FF j.1 j.2.1;have g:=k.iq.ok _ (bC u);obtain ⟨l,n⟩:=FF g.part.1 g.part.2;have p:=k.parts.ok _ (bC l);have lp:=hs.part _ (bC l);refine ⟨decide (BC s (s.aH[s.aq[q.toNat].Part.toNat]) need≥m),?_,?_⟩
  ·simp only[jk,h,aw];rw[if_neg (by simp_all),e,aw];simp only[Av,h,aw];rw[if_neg (by have:=g.part;simp;omega),n,aw];have:=HG k d f (kj lp (by decide)) p.2 (λa=>lK 5000 a need) (λa i=>count i d f);rw[this,aw]
  ·simp only[zdf];rw[if_pos (by simp_all),e,aw];simp only[gQ];rw[if_neg (by have:=g.part;simp_all)];simp only[n,aw];have:=HG k d f (kj lp (by decide)) p.2 (λa=>zbz 5000 a need) (λa i=>AM i d f);rw[this,aw]
 ·refine ⟨false,?_,?_⟩
  ·simp only[jk,h,aw]
   grind
  ·simp only[zdf]
   grind
structure zU (j:aM):Prop where
 st:1<=j.State/\j.State<=6
 start:j.Start≠0->3<=j.State
 fin:j.End≠0->5<=j.State
 ok:j.Ok=true->j.State=4\/j.State=5
 kill:j.cG=true->j.State=4\/j.State=6
structure gn (j:aM):Prop where
 id:1<=j.Id/\j.Id<=1048576
 user:0<=j.cu/\j.cu<=7
 queue:0<=j.Queue/\j.Queue<=7
 many:1<=j.aL/\j.aL<=64
 need:aN j.ay
 ux:j.ay≠bP
 wall:1<=j.aO/\j.aO<=65536
 mO:j.aF.length<=4
 after:∀d∈j.aF,1<=d.aW/\d.aW<=j.Id-1
 version:1<=j.aJ/\j.aJ<=281474976710656
 born:0<=j.cI/\j.cI<=1099511627776
 start:0<=j.Start/\j.Start<=1099511627776
 fin:0<=j.End/\j.End<=1099511627776
 arr:0<=j.Array/\j.Array<=j.Id
 state:zU j
theorem name_ok(x:Int):bR (vi 5000 x) λr=>r.toList=[]↔¬(1<=x/\x<=6):=by
 simp only[vi,bx,bg,nh];have e:(⟨#[]⟩:ByteArray).toList=[]:=by kernel_rfl
 refine ⟨λh=>?_,λa=>⟨λh=>?_,λd=>⟨λh=>?_,λf=>⟨λh=>?_,λg=>⟨λh=>?_,λi=>⟨λh=>?_,λj=>?_⟩⟩⟩⟩⟩⟩
 ·simp_all
 ·simp_all
 ·simp_all
 ·simp_all
 ·simp_all
 ·simp_all
 grind
theorem Lj(j:aM):gh (gI 5000 j) (zU j):=by
 have e:(⟨#[]⟩:ByteArray).toList=[]:=by kernel_rfl
 simp only[gI,fA];refine (name_ok j.State).bind λr i=>?_;have no:∀{p:Prop},¬p->(false=true↔p):=λh=>by simp[h]
 rw[bx];refine ⟨λh=>?_,λh=>?_⟩
 ·rw[bg];simp only[e,nh] at h;exact no λk=>i.1 h k.st
 ·simp only[e,nh] at h;have hs:1<=j.State/\j.State<=6:=yCo λl=>h (i.2 l);simp only[iU,Vk,aw,bX,cr];have fin:∀Q:Prop,(Q↔((j.Ok=true->j.State=4\/j.State=5)/\(j.cG=true->j.State=4\/j.State=6)->zU j)/\True)->True:=λ_ _=>trivial;have a:(j.Start≠0->3<=j.State)->(j.End≠0->5<=j.State)->bR (if ((j.Ok&&(j.State != 4))&&(j.State != 5))=true then some false else if ((j.cG&&(j.State != 4))&&(j.State != 6))=true then some false else some true) λb=>b=true↔zU j:=λf m=>by
   simp only[bx,bg,bI,Jt,ne_eq];refine ⟨λq=>no λk=>by have:=k.ok q.1.1;omega,λn=>⟨λq=>no λk=>by have:=k.kill q.1.1;omega,λd=>?_⟩⟩;simp only[Oj];refine ⟨hs,f,m,λo=>?_,λo=>?_⟩
   ·grind
   grind
  have mid:(j.Start≠0->3<=j.State)->bR (if (j.End != 0)=true then (if (!((j.State == 5) || (j.State == 6)))=true then some false else if ((j.Ok&&(j.State != 4))&&(j.State != 5))=true then some false else if ((j.cG&&(j.State != 4))&&(j.State != 6))=true then some false else some true) else if ((j.Ok&&(j.State != 4))&&(j.State != 5))=true then some false else if ((j.cG&&(j.State != 4))&&(j.State != 6))=true then some false else some true) λb=>b=true↔zU j:=λf=>by
   rw[bx];refine ⟨λq=>?_,λq=>a f λg=>absurd g (by simp_all)⟩;rw[bx];refine ⟨λd=>?_,λd=>a f λ_=>?_⟩
   ·rw[bg];simp only[Jt,ne_eq,im,Bool.or_eq_false_iff,beq_eq_false_iff_ne] at q d;exact no λk=>by have:=k.fin q;omega
   grind [Bool.or_eq_false_iff]
  rw[bx];refine ⟨λq=>?_,λq=>mid λg=>absurd g (by simp_all)⟩;rw[bx];refine ⟨λd=>?_,λd=>mid λ_=>?_⟩
  ·rw[bg];simp only[Jt,ne_eq,gz,nh] at q d;exact no λk=>by have:=k.start q;omega
  grind
theorem Bf(j:aM):gh (ZV 5000 j) (gn j):=by
 have no:∀{p:Prop},¬p->bR (some false) (λb=>b=true↔p):=λh=>by rw[bg];simp[h]
 simp only[ZV,NI,aw];have a:∀{l hi x:Int}{o:Option Bool}{P:Prop},(P->l<=x/\x<=hi)->(l<=x/\x<=hi->bR o λb=>b=true↔P)->bR (if (decide (l<=x)&&decide (x<=hi))=true then o else some false) λb=>b=true↔P:=λu m=>by rw[bx];simp only[bI,bz];exact ⟨λh=>m h,λh=>no λp=>h (u p)⟩
 refine a (λk=>k.id) λc1=>a (λk=>k.user) λA=>a (λk=>k.queue) λE=>a (λk=>k.many) λF=>?_;refine (Uf j.ay).bind λr v=>?_;rw[bx];refine ⟨λh=>?_,λh=>no λk=>h ?_⟩
 rotate_left
 ·have N:aD.beq j.ay bP=false:=by
   grind [fy,gn.ux]
  rw[v.2 k.need];change (true&&!(aD.beq j.ay bP))=true
  simp_all
 simp only[bI,im] at h;have G:=v.1 h.1;have n:j.ay≠bP:=λe=>by
  have m:aD.beq j.ay bP=false:=h.2
  grind [fy]
 refine a (λk=>k.wall) λK=>?_;have g:gh (gG 5000 j) (j.aF.length<=4/\∀d∈j.aF,1<=d.aW/\d.aW<=j.Id-1):=by
  simp only[gG,bx,bg,NI,aw];refine ⟨λh=>?_,λh=>?_⟩
  ·grind
  ·simp only[bz] at h;refine Od j.aF (λd=>1<=d.aW/\d.aW<=j.Id-1) _ (λk=>k.2) (λi f w Q u m=>?_) (λf O=>?_) (by omega)
   ·simp only[cR w,if_true,bY w,aw,bU (show i<1000000 by omega),bx,bg,im,yBB,yBo]
    grind [wr]
   ·simp only[eL,bX,cr,bg,Oj]
    grind
 refine g.bind λS y=>?_;rw[bx];refine ⟨λh=>?_,λh=>no λk=>h (y.2 ⟨k.mO,k.after⟩)⟩;have z:=y.1 h;refine a (λk=>k.version) λL=>a (λk=>k.born) λM=>a (λk=>k.start) λq=>a (λk=>k.fin) λs=>a (λk=>k.arr) λt=>?_;refine (Lj j).bind λrs hs=>?_;rw[bg,hs];exact ⟨λk=>⟨c1,A,E,F,G,n,K,z.1,z.2,L,M,q,s,t,k⟩,λk=>k.state⟩
theorem Fm(j:aM)(hl:j.aF.length<=10):gh (zdK 5000 j) (gn j):=by
 simp only[zdK,fA,SA,aw];refine Od j.aF (λd=>1<=d.aW/\d.aW<=i64.wrap (j.Id-1)) _ (λk d a=>by have:=k.after d a;have:=k.id;grind [wr]) (λi f e Q g A=>?_) (λf E=>?_) (by omega)
 ·simp only[cR e,if_true,bY e,aw,bU (show i<1000000 by omega),bx,bg,im,yBB,yBo]
  grind
 ·simp only[eL,bX,cr];obtain ⟨F,l,g⟩:=zm j.ay;simp only[l,aw];have no:∀{p:Prop},¬p->(False↔p):=λh=>by simp[h]
  simp only[if_true,cr,bx,bg,bz,im,yBB,yBo,bI,bX,nO,Jt,ne_eq,gz,nh];refine ⟨λc=>no λk=>by grind [gn.mO],λG=>⟨λc=>no λk=>by have:=k.id;omega,λc1=>⟨λc=>no λk=>by have:=k.user;omega,λK=>⟨λc=>no λk=>by have:=k.queue;omega,λL=>⟨λc=>no λk=>by have:=k.many;omega,λM=>⟨λc=>no λk=>(by grind [gn.need]),λm=>?_⟩⟩⟩⟩⟩⟩;have v:=g.1 m;have n:Pq 5000 j.ay ({ bA:=0,Mem:=0,bE:=0,bG:=0 }:aD)=some (decide (j.ay=bP)):=Hv v;simp only[if_true,cr,n,aw,bx,bg,bz,im,yBB,yBo,bI,bX,nO,Jt,ne_eq,gz,nh];refine ⟨λc=>no λk=>k.ux c,λq=>⟨λc=>no λk=>by have:=k.wall;omega,λN=>⟨λc=>no λk=>by have:=k.state.st;omega,λO=>⟨λc=>no λk=>by have:=k.version;omega,λS=>⟨λc=>no λk=>by have:=k.arr;omega,λr=>⟨λc=>no λk=>by have:=k.born;omega,λs=>⟨λc=>no λk=>by have:=k.start;omega,λt=>⟨λc=>no λk=>by have:=k.fin;omega,λu=>⟨λc=>no λk=>by have:=k.state.start;omega,λw=>⟨λc=>no λk=>by have:=k.state.fin;omega,λx=>⟨λy=>?_,λc=>no λk=>c ?_⟩⟩⟩⟩⟩⟩⟩⟩⟩⟩⟩
  ·constructor
   ·intro z;refine ⟨by omega,by omega,by omega,by omega,v,q,by omega,by omega,λd a=>?_,by omega,by omega,by omega,by omega,by omega,⟨by omega,by omega,by omega,λo=>?_,λo=>?_⟩⟩
    ·grind [wr]
    ·simp_all
    simp_all
   ·intro k;cases hk:j.cG with
    |false=>simp_all
    |true=>
     rcases k.state.kill hk with c | c
     ·omega
     omega
  ·cases hk:j.Ok with
   |false=>simp_all
   |true=>
    rcases k.state.ok hk with c | c
    ·omega
    omega
section
variable{X R:Type}{b:(X->Option R)->X->Option R}{Q:R->Prop}
theorem lpM(I:X->Prop)(m:X->Nat)(hs:∀x f,I x->(∀d,I d->m d<m x->bR (f d) Q)->bR (b f x) Q){a:X}(g:I a){N:Nat}(i:m a<N):bR (bF b N a) Q:=by
 induction N generalizing a with
 |zero=>omega
 |succ N ih=>exact hs a _ g λd e h=>ih e (by omega)
end
theorem mid{i j:Nat}(h:i+j<1000000):i64.wrap (Int.fdiv (u64.wrap (i64.wrap ((i:Int)+(j:Int)))) (2 ^ 1))=(((i+j) / 2:Nat):Int):=by
 rw[wr (x:=(i:Int)+(j:Int)) (by omega) (by omega)]
 grind [Go.IntKind.wrap,Go.IntKind.bits]
def bW(l:List aM):Prop:=∀i (h:i+1<l.length),l[i].Id<l[i+1].Id
theorem bW.lt{l:List aM}(h:bW l):∀{i j:Nat}(s:i<j)(u:j<l.length),l[i].Id<l[j].Id:=by
 intro i j s u;induction j with
 |zero=>omega
 |succ j ih=>
  have x:=h j u
  grind
theorem bW.inj{l:List aM}(h:bW l){i j:Nat}(hi:i<l.length)(u:j<l.length)(e:l[i].Id=l[j].Id):i=j:=by
 rcases Vo i j with s | s | s
 ·have:=h.lt s u;omega
 ·exact s
 ·have:=h.lt s hi;omega
structure At (l:List aM) (id:Int) (r:Int):Prop where
 lo:0<=r
 hi:r.toNat<l.length
 is:l[r.toNat].Id=id
theorem At.mem{l:List aM}{id r:Int}(h:At l id r):∃j∈l,j.Id=id:=⟨l[r.toNat]'h.hi,bC _,h.is⟩
theorem At.Al{l:List aM}{id r i:Int}(hs:bW l)(h:At l id r)(j:At l id i):r=i:=by have:=hs.inj h.hi j.hi (by grind [At.is]);have:=h.lo;have:=j.lo;omega
theorem half{l:List aM}(hl:l.length<=300)(hs:bW l)(id:Int){R:Type}{Q:R->Prop}(C:aM->Option Bool)(n:∀j∈l,C j=some (decide (j.Id<id)))(E:Int->Option R)
  (u:∀i:Nat,i<=l.length->(∀k (h:k<l.length),k<i->l[k].Id<id)->(∀k (h:k<l.length),i<=k->id<=l[k].Id)->bR (E (i:Int)) Q) :
  ∀ (b : (Int × Int -> Option R) -> Int × Int -> Option R), (∀ f x, b f x = if decide (x.1 < x.2) = true then (aE l (i64.wrap (Int.fdiv (u64.wrap (i64.wrap (x.1 + x.2))) (2 ^ 1)))).bind λa => (C a).bind λc => if c = true then f ((i64.wrap ((i64.wrap (Int.fdiv (u64.wrap (i64.wrap (x.1 + x.2))) (2 ^ 1))) + 1)), x.2) else f (x.1, (i64.wrap (Int.fdiv (u64.wrap (i64.wrap (x.1 + x.2))) (2 ^ 1)))) else E x.1) ->
   bR (bF b 5000 (0,(l.length:Int))) Q:=by
 intro b hb;refine lpM (λx=>∃i j:Nat,x=((i:Int),(j:Int))/\i<=j/\j<=l.length/\(∀k (h:k<l.length),k<i->l[k].Id<id)/\(∀k (h:k<l.length),j<=k->id<=l[k].Id)) (λx=>(x.2-x.1).toNat) (λx f p m=>?_) ⟨0,l.length,rfl,by omega,by omega,λk h hk=>by omega,λk h hk=>by omega⟩ (by omega);obtain ⟨i,j,rfl,v,r,s,t⟩:=p;rw[hb,bx];dsimp only;refine ⟨λh=>?_,λh=>?_⟩
 ·simp only[bz] at h;rw[mid (by omega)];have e:(i+j) / 2<l.length:=by omega
  rw[bY e,aw,n _ (bC e),aw,bx];refine ⟨λg=>?_,λg=>?_⟩
  ·simp only[bz] at g;rw[bU (by omega)];refine m _ ⟨(i+j) / 2+1,j,rfl,by omega,r,λk hk d=>?_,t⟩ (by omega);rcases WB (yCx.1 d) with q | q
   ·have:=hs.lt q e;omega
   simp_all
  ·simp only[bz] at g;refine m _ ⟨i,(i+j) / 2,rfl,by omega,by omega,s,λk hk d=>?_⟩ (by omega);rcases WB d with q | q
   ·have:=hs.lt q hk;omega
   simp_all
 ·simp only[bz] at h;have:i=j:=by omega
  simp_all
theorem Qr{l:List aM}(hl:l.length<=300)(hs:bW l){id:Int}(m:0<=id/\id<=1048576)(g:∀j∈l,0<=j.Id/\j.Id<=1048576):bR (mA 5000 l id) λr=>(r.2=true↔∃j∈l,j.Id=id)/\(r.2=true->At l id r.1):=by
 simp only[mA,zaz];rw[jV];refine half hl hs id (λj=>some (decide (i64.wrap (j.Id-id)<0))) (λj d=>?_) (λi=>if (decide (i<(l.length:Int)))=true then (aE l i).bind λn=>(gW 5000 n id).bind λp=>some (i,(p == 0)) else some (i,false)) (λi hi s t=>?_) _ (λf x=>rfl)
 ·have:=g j d;rw[wr (by omega) (by omega)]
  grind
 ·rw[bx];refine ⟨λh=>?_,λh=>?_⟩
  ·simp only[bz] at h;have a:i<l.length:=by omega
   have:=g _ (bC a);rw[bY a,aw];simp only[gW,aw,bg,nh];rw[wr (by omega) (by omega)];refine ⟨⟨λe=>⟨_,bC a,by omega⟩,λ⟨j,d,e⟩=>?_⟩,λe=>⟨by omega,by omega,by grind⟩⟩;obtain ⟨k,hk,rfl⟩:=iW d;rcases Vo k i with q | q | q
   ·grind
   ·simp_all
   ·have:=hs.lt q hk;grind
  ·simp only[bz] at h;simp only[bg,bX,ET,false_implies,Kv]
   grind [List.getElem_of_mem]
theorem zp{l:List aM}(hl:l.length<=300)(id:Int):bR (ZL 5000 l id) λr=>(0<=r↔∃j∈l,j.Id=id)/\(0<=r->At l id r)/\(r<0->r=-1):=by
 simp only[ZL];refine wi l (λ_ j=>j.Id≠id) (λi f h _ a=>?_) (λf h=>?_) (by omega)
 ·simp only[cR h,if_true,bY h,aw,bU (show i<1000000 by omega),bx,bg,nh];exact ⟨λe=>⟨⟨λ_=>⟨_,bC h,e⟩,λ_=>by omega⟩,λ_=>⟨by omega,by omega,by simp_all⟩,λh=>by omega⟩,λe=>a e⟩
 ·simp only[eL,bX,cr,bg];refine ⟨⟨λh=>by omega,λ⟨j,d,e⟩=>absurd e (CI (A:=λj=>j.Id≠id) h j d)⟩,λh=>by omega,λ_=>trivial⟩
structure Cw (l:List dj) (n:Int) (i:Nat) (x:dj):Prop where
 up:Kb (l.map (·.Node)) i<x.Node
 lt:x.Node<n
 lo:1<=x.aL
 hi:x.aL<=64
def ba(l:List dj)(n:Int):Prop:=∀i (h:i<l.length),Cw l n i l[i]
theorem ba.node{l:List dj}{n:Int}(h:ba l n):mn (l.map (·.Node)) n:=λi hi=>by rw[wX] at hi;rw[U_];exact ⟨(h i hi).up,(h i hi).lt⟩
theorem ba.mem{l:List dj}{n:Int}(h:ba l n):∀x∈l,0<=x.Node/\x.Node<n/\1<=x.aL/\x.aL<=64:=λx j=>by have s:=h.node.mem x.Node (iP.2 ⟨x,j,rfl⟩);obtain ⟨i,hi,rfl⟩:=iW j;have u:=h i hi;exact ⟨s.1,s.2,u.lo,u.hi⟩
theorem qG{l:List dj}{i:Nat}(h:i<l.length):Kb (l.map (·.Node)) (i+1)=l[i].Node:=by grind [pR]
theorem nK(l:List dj)(n:Int)(hl:l.length<=300):gh (ze0 5000 l n) (ba l n):=by
 simp only[ze0];refine jj l.length (λi x=>x=(Kb (l.map (·.Node)) i,(i:Int))/\∀j (e:j<l.length),j<i->Cw l n j l[j]) (λi x f hi a m=>?_) (λx f a=>?_) ⟨rfl,λj e h=>by omega⟩ (by omega)
 ·obtain ⟨rfl,g⟩:=a;simp only[cR hi,if_true,bY hi,aw,bU (show i<1000000 by omega),bx,bg,gz,bz];refine ⟨λh=>?_,λh=>m _ ⟨by rw[qG hi],λj e d=>?_⟩⟩
  ·simp only[bX,ET];intro p;have q:=p i hi;have r:=q.up;have s:=q.lt;have t:=q.lo;have u:=q.hi;omega
  ·rcases WB (yCx.1 d) with k | k
   ·simp_all
   ·subst k;exact ⟨by omega,by omega,by omega,by omega⟩
 ·obtain ⟨rfl,g⟩:=a;simp only[eL,bX,cr,bg,Oj];exact λi hi=>g i hi hi
theorem Hw(l:List dj)(n:Int)(hl:l.length<=300):gh (zbw 5000 l n) (ba l n):=by
 simp only[zbw,fA];refine wi l (λi a=>Cw l n i a) (λi f h v e=>?_) (λf h=>?_) (by omega)
 ·have g:decide ((i:Int) > 0)=decide (0<i):=by simp
  simp only[cR h,if_true,bY h,aw,bU (show i<1000000 by omega),bx,bg,bz,g,bX,cr];have bad:¬(Cw l n i l[i])->(False↔ba l n):=λj=>by simp only[ET];exact λd=>j (d i h)
  refine ⟨λp=>?_,λp=>⟨λq=>bad λk=>by have:=k.lt;omega,λq=>⟨λr=>bad λk=>by have:=k.lo;omega,λr=>⟨λs=>bad λk=>by have:=k.hi;omega,λs=>⟨λt=>?_,λt=>?_⟩⟩⟩⟩⟩
  ·simp only[ET];intro d;have:=(d.mem _ (bC h)).1;omega
  ·obtain ⟨m,rfl⟩:∃m,i=m+1:=⟨i-1,by omega⟩;rw[wp1 (show m+1<1000000 by omega),bY (show m<l.length by omega)];simp only[aw,bx,bz,bg,bX];exact ⟨λu=>bad λk=>by have:=k.up;grind [qG],λu=>e ⟨by grind [qG],by omega,by omega,by omega⟩⟩
  ·have:i=0:=by omega
   subst this;exact e ⟨by grind [Kb],by omega,by omega,by omega⟩
 ·simp only[eL,bX,cr,bg,Oj];exact h
def kz(l:List dj):Int:=(l.map (·.aL)).sum
theorem XZ{l:List dj}(h:∀x∈l,1<=x.aL/\x.aL<=64):0<=kz l/\kz l<=64 * l.length:=by
 induction l with
 |nil=>simp[kz]
 |cons x l ih=>
  have:=ih λy a=>h y (nS _ a)
  grind [kz]
theorem MV{l:List dj}{i:Nat}(h:i<l.length):kz (l.take (i+1))=kz (l.take i)+l[i].aL:=by grind [List.take_succ_eq_append_getElem,kz]
theorem MQ{l:List dj}{n:Int}(hl:l.length<=300)(h:ba l n):nU 5000 l=some (kz l):=by
 simp only[nU];refine bR.eq (jj l.length (λi x=>x=(kz (l.take i),(i:Int))) (λi x f hi a e=>?_) (λx f a=>?_) (by simp[kz]) (by omega))
 ·subst a;have q:=h.mem _ (bC hi);have b:=XZ (l:=l.take i) λx a=>(h.mem x (Ky a)).2.2;have g:((l.take i).length:Int)<=300:=by rw[BV];omega
  have d:ZR 5000 l[i].aL 0 64=some l[i].aL:=by
   simp only[ZR]
   grind
  simp only[cR hi,if_true,bY hi,aw,d,bU (show i<1000000 by omega)]
  grind [wr,MV]
 ·subst a;simp only[eL,bX,cr,bg,xr]
theorem GK{l:List dj}{n:Int}(hl:l.length<=300)(h:ba l n):zcJ 5000 l=some (kz l):=by
 simp only[zcJ,fA];refine bR.eq (jj l.length (λi x=>x=(kz (l.take i),(i:Int))) (λi x f hi a d=>?_) (λx f a=>?_) (by simp[kz]) (by omega))
 ·subst a;have q:=h.mem _ (bC hi);have b:=XZ (l:=l.take i) λx a=>(h.mem x (Ky a)).2.2;have e:((l.take i).length:Int)<=300:=by grind
  simp only[cR hi,if_true,bY hi,aw,bU (show i<1000000 by omega)];rw[if_neg (by simp_all),if_pos (by grind),wr (by omega) (by omega)]
  grind [MV]
 ·subst a;simp only[eL,bX,cr,bg,xr]
theorem Me(l:List Int)(hl:l.length<=300)(x:Int):gh (zb2 5000 l x) (x∈l):=by
 simp only[gh,zb2,zdX];rw[jV];refine wi l (λ_ y=>x≠y) (λi f h _ a=>?_) (λf h=>?_) (by omega)
 ·simp only[cR h,if_true,bY h,aw,bU (show i<1000000 by omega),bx,nh];refine ⟨λe=>?_,λe=>a e⟩;simp only[bg,bz]
  simp_all
 ·simp only[eL,bX,cr,bg,bz];exact ⟨λh=>by omega,λd=>absurd rfl (CI (A:=λy=>x≠y) h x d)⟩
theorem ref_has(l:List Int)(hl:l.length<=300)(x:Int):gh (zeN 5000 l x) (x∈l):=by
 simp only[zeN];refine wi l (λ_ y=>y≠x) (λi f h _ d=>?_) (λf h=>?_) (by omega)
 ·simp only[cR h,if_true,bY h,aw,bU (show i<1000000 by omega),bx,nh,bg,Oj]
  grind
 ·simp only[eL,bX,cr,bg,ET];exact λa=>absurd rfl (CI (A:=λy=>y≠x) h x a)
structure jC (s:bm) (j:aM) (l:List dj):Prop where
 shares:ba l s.ai.length
 TU:kz l=j.aL
 q:0<=j.Queue/\j.Queue<s.aq.length
 part:∀x∈l,x.Node∈(s.aH[((s.aq[j.Queue.toNat]?).getD default).Part.toNat]?).getD []
theorem KW{s:bm}(hs:lX s)(k:br s)(j:aM)(l:List dj)(hl:l.length<=300):gh (gp 5000 s j l) (jC s j l):=by
 have no:∀{p:Prop},¬p->bR (some false) (λb=>b=true↔p):=λh=>by rw[bg];simp[h]
 simp only[gp,fA];refine (nK l _ hl).bind λr g=>?_;rw[bx];refine ⟨λh=>?_,λh=>?_⟩
 ·simp only[if_true];exact no λk=>by grind [jC.shares]
 ·simp only[im,nO] at h;have S:=g.1 h;rw[MQ hl S,aw,bx];refine ⟨λq=>no λk=>by grind [jC.TU],λq=>?_⟩;have t:kz l=j.aL:=by simp_all
  rw[bx];refine ⟨λu=>no λk=>by have:=k.q;grind,λu=>?_⟩;have a:0<=j.Queue/\j.Queue<s.aq.length:=by simp_all
  obtain ⟨d,e⟩:=FF a.1 a.2;have m:=k.iq.ok _ (bC d);obtain ⟨v,w⟩:=FF m.part.1 m.part.2;have lp:=hs.part _ (bC v);have y:(s.aH[((s.aq[j.Queue.toNat]?).getD default).Part.toNat]?).getD []=s.aH[s.aq[j.Queue.toNat].Part.toNat]:=by simp_all
  rw[e,aw,w,aw];refine Od l (λx=>x.Node∈s.aH[s.aq[j.Queue.toNat].Part.toNat]) _ (λk x d=>by rw[<-y];exact k.part x d) (λi f n Q z A=>?_) (λf E=>?_) (by omega)
  ·simp only[cR n,if_true,bY n,aw,bU (show i<1000000 by omega)];refine (Me _ (kj lp (by decide)) _).bind λr g=>?_;simp only[bx,bg,im,nO]
   grind
  ·simp only[eL,bX,cr,bg,Oj];exact ⟨S,t,a,by simp_all⟩
theorem Ww{s:bm}(hs:lX s)(k:br s)(j:aM)(l:List dj)(hl:l.length<=300):gh (zed 5000 s j l) (jC s j l):=by
 have no:∀{p:Prop},¬p->bR (some false) (λb=>b=true↔p):=λh=>by rw[bg];simp[h]
 simp only[zed,fA];refine (Hw l _ hl).bind λr g=>?_;rw[bx];refine ⟨λh=>?_,λh=>?_⟩
 ·simp only[if_true];exact no λk=>by grind [jC.shares]
 ·simp only[im,nO] at h;have S:=g.1 h;rw[GK hl S,aw,bx];refine ⟨λt=>no λk=>by have:=k.TU;have:=k.q;grind,λt=>?_⟩;have m:kz l=j.aL/\0<=j.Queue/\j.Queue<s.aq.length:=by simp_all
  have a:=m.2;obtain ⟨d,e⟩:=FF a.1 a.2;have n:=k.iq.ok _ (bC d);obtain ⟨u,v⟩:=FF n.part.1 n.part.2;have lp:=hs.part _ (bC u);have w:(s.aH[((s.aq[j.Queue.toNat]?).getD default).Part.toNat]?).getD []=s.aH[s.aq[j.Queue.toNat].Part.toNat]:=by simp_all
  rw[e,aw,v,aw];refine Od l (λx=>x.Node∈s.aH[s.aq[j.Queue.toNat].Part.toNat]) _ (λk x d=>by rw[<-w];exact k.part x d) (λi f q Q y z=>?_) (λf A=>?_) (by omega)
  ·simp only[cR q,if_true,bY q,aw,bU (show i<1000000 by omega)];refine (ref_has _ (kj lp (by decide)) _).bind λr g=>?_;simp only[bx,bg,im,nO]
   grind
  ·simp only[eL,bX,cr,bg,Oj];exact ⟨S,m.1,a,by simp_all⟩
def cmp:Nat->aD->Int
 |0,r=>r.bA
 |1,r=>r.Mem
 |2,r=>r.bE
 |_,r=>r.bG
theorem rB{r:aD}:aN r↔∀c,0<=cmp c r/\cmp c r<=1048576:=by
 constructor
 ·intro h c
  match c with
  |0=>exact h.FN
  |1=>exact h.mem
  |2=>exact h.IL
  |_+3=>exact h.JZ
 ·intro h;exact ⟨h 0,h 1,h 2,h 3⟩
theorem OH{a b:aD}(h:∀c,cmp c a=cmp c b):a=b:=by
 obtain ⟨d,e,f,g⟩:=a;obtain ⟨i,j,k,l⟩:=b;have m:=h 0;have n:=h 1;have p:=h 2;have q:=h 3
 grind [cmp]
def fw(a b:aD):aD:={ bA:=a.bA-b.bA,Mem:=a.Mem-b.Mem,bE:=a.bE-b.bE,bG:=a.bG-b.bG }
def sI(a b:aD):aD:={ bA:=a.bA+b.bA,Mem:=a.Mem+b.Mem,bE:=a.bE+b.bE,bG:=a.bG+b.bG }
def mulR(n:Int)(a:aD):aD:={ bA:=n * a.bA,Mem:=n * a.Mem,bE:=n * a.bE,bG:=n * a.bG }
theorem Ci(c:Nat)(a b:aD):cmp c (fw a b)=cmp c a-cmp c b:=by match c with | 0=>rfl | 1=>rfl | 2=>rfl | _+3=>rfl
theorem qO(c:Nat)(a b:aD):cmp c (sI a b)=cmp c a+cmp c b:=by match c with | 0=>rfl | 1=>rfl | 2=>rfl | _+3=>rfl
theorem zr(c:Nat)(n:Int)(a:aD):cmp c (mulR n a)=n * cmp c a:=by match c with | 0=>rfl | 1=>rfl | 2=>rfl | _+3=>rfl
theorem NF(c:Nat):cmp c bP=0:=by match c with | 0=>rfl | 1=>rfl | 2=>rfl | _+3=>rfl
theorem CN{a:Int}(h:a.natAbs<2 ^ 53):yD a=some a:=by unfold yD;simp_all
theorem Gm{a b c d:Int}(e:a.natAbs<2 ^ 53)(hb:b.natAbs<2 ^ 53)(f:c.natAbs<2 ^ 53)(g:d.natAbs<2 ^ 53) :
  bR (zdx 5000 (a,b) (c,d)) λr=>(r.2=0↔aN ⟨a,b,c,d⟩)/\(r.2=0->r.1=⟨a,b,c,d⟩):=by
 simp only[zdx,mS,CN e,CN hb,CN f,CN g,aw];refine (Uf _).bind λr h=>?_;simp only[bx,bg,im,nO]
 grind
theorem eW{n x:Int}(a:0<=n/\n<=64)(d:0<=x/\x<=1048576):0<=n * x/\n * x<=67108864:=by have e:0<=n * x:=yBY a.1 d.1;have f:n * x<=64 * x:=yAW a.2 d.1;omega
theorem Mq{a:aD}{n:Int}(d:aN a)(m:1<=n/\n<=64):bR (pW 5000 a n) λr=>(r.2=0↔aN (mulR n a))/\(r.2=0->r.1=mulR n a):=by
 simp only[pW];obtain ⟨p,i,j⟩:=Uf a;have k:=j.2 d;subst k;have e:0<=n/\n<=64:=by omega
 simp only[i,aw,Ny,Bool.false_or];rw[if_neg (by simp_all)];by_cases g:a=bP
 ·subst g;rw[if_pos (by exact fy.2 rfl),bg];have:mulR n bP=bP:=by simp[mulR,bP]
  rw[this];exact ⟨⟨λ_=>⟨by simp[bP],by simp[bP],by simp[bP],by simp[bP]⟩,λ_=>rfl⟩,λ_=>rfl⟩
 ·rw[if_neg (show ¬(aD.beq a ({ bA:=0,Mem:=0,bE:=0,bG:=0 }:aD)=true) from λh=>g (fy.1 h)),if_neg (by grind)];have f:∀{x:Int},0<=x/\x<=1048576->xq x n=some (x * n):=λ{x} q=>by unfold xq;grind
  have s:=eW e d.FN;have t:=eW e d.mem;have u:=eW e d.IL;have v:=eW e d.JZ;simp only[zc6,aw,f d.FN,f d.mem,f d.IL,f d.JZ];rw[Int.mul_comm a.bA n,Int.mul_comm a.Mem n,Int.mul_comm a.bE n,Int.mul_comm a.bG n];refine (Gm (by omega) (by omega) (by omega) (by omega)).bind λr l=>?_;rw[bg];exact l
theorem YW{a b:aD}(d:aN a)(hb:aN b):bR (z_ 5000 a b) λr=>(r.2=0↔aN (fw a b))/\(r.2=0->r.1=fw a b):=by
 simp only[z_,fA];obtain ⟨m,f,g⟩:=Uf a;have h:=g.2 d;subst h;obtain ⟨n,i,j⟩:=Uf b;have k:=j.2 hb;subst k;have e:∀{x y:Int},0<=x/\x<=1048576->0<=y/\y<=1048576->w_ x y=some (x-y):=λ{x y} p q=>by unfold w_;grind
 simp only[f,i,aw,Ny,bX,cr,zc6,e d.FN hb.FN,e d.mem hb.mem,e d.IL hb.IL,e d.JZ hb.JZ];have:=d.FN;have:=d.mem;have:=d.IL;have:=d.JZ;have:=hb.FN;have:=hb.mem;have:=hb.IL;have:=hb.JZ;refine (Gm (by omega) (by omega) (by omega) (by omega)).bind λr l=>?_;rw[bg];exact l
def dm(l:List dj)(i:Int):Int:=(l.map λx=>if x.Node=i then x.aL else 0).sum
theorem mg{l:List dj}{k:Nat}(h:k<l.length)(i:Int):dm (l.take (k+1)) i=dm (l.take k) i+if l[k].Node=i then l[k].aL else 0:=by grind [List.take_succ_eq_append_getElem,dm]
theorem xU{l:List dj}(h:∀x∈l,0<=x.aL)(i:Int):0<=dm l i:=by
 induction l with
 |nil=>simp[dm]
 |cons x l ih=>grind [dm]
theorem QZ{l m:List dj}(i:Int):dm (l++m) i=dm l i+dm m i:=by simp[dm]
theorem Yh{l:List dj}(h:∀x∈l,0<=x.aL)(k:Nat)(i:Int):dm (l.take k) i<=dm l i:=by have:=QZ (l:=l.take k) (m:=l.drop k) i;rw[J_] at this;have:=xU (l:=l.drop k) (λx a=>h x (ZS a)) i;omega
theorem jA{l:List dj}{n:Int}(h:ba l n)(i:Int):0<=dm l i/\dm l i<=64:=by
 refine ⟨xU (λx d=>by have:=h.mem x d;omega) i,?_⟩;have a:∀k,k<=l.length->(dm (l.take k) i<=64/\(dm (l.take k) i≠0->i<=Kb (l.map (·.Node)) k)):=by
  intro k;induction k with
  |zero=>grind [dm]
  |succ k ih=>intro hk;obtain ⟨e,f⟩:=ih (by omega);have s:=h k (by omega);have s1:=s.up;have g:=s.lt;have j:=s.lo;have m:=s.hi;rw[mg (by omega),qG (show k<l.length by omega)];omega
 have:=(a l.length (cO _)).1
 simp_all
theorem HX{l:List dj}{n:Int}(hl:l.length<=300)(h:ba l n)(i:Int):zcn 5000 l i=some (dm l i):=by
 simp only[zcn,fA];refine bR.eq (jj l.length (λk x=>x=(dm (l.take k) i,(k:Int))) (λk x f hi a g=>?_) (λx f a=>?_) (by simp[dm]) (by omega))
 ·subst a;have q:=h.mem _ (bC hi);have b:=xU (l:=l.take k) (λx a=>by have:=h.mem x (Ky a);omega) i;have j:=Yh (λx a=>by have:=h.mem x a;omega) k i;have m:=jA h i;have e:=mg hi i;simp only[cR hi,if_true,bY hi,aw,bU (show k<1000000 by omega),bx,nh];refine ⟨λd=>?_,λd=>g _ ?_⟩
  ·rw[if_pos d] at e
   grind [wr]
  simp_all
 ·subst a;simp only[eL,bX,cr,bg,xr]
def qi(a:bV)(i:Nat)(r:aD):aD:=fw r (mulR (dm a.ah i) a.ay)
def um(F:List aD)(a:bV):Prop:=∀i (h:i<F.length),aN (qi a i F[i])
structure qy (F:List aD) (a:bV) (G:List aD):Prop where
 len:G.length=F.length
 cK:∀i (h:i<G.length),G[i]=qi a i (F[i]'(by omega))
theorem Uc{a:bV}{F:List aD}(hF:F.length<=300)(hl:a.ah.length<=300)(N:ba a.ah F.length)(E:aN a.ay)(S:∀r∈F,aN r) :
  bR (zbL 5000 a F) λr=>(r.2=0↔um F a)/\(r.2=0->qy F a r.1):=by
 simp only[zbL,zbv,FR (show F.length<=1000000 by omega),aw];have nn:∀x∈a.ah,0<=x.aL:=λx p=>by have:=N.mem x p;omega
 refine jj a.ah.length (λk x=>x.1=(k:Int)/\x.2.length=F.length/\(∀r∈x.2,aN r)/\∀i (h:i<x.2.length) (j:i<F.length),x.2[i]=fw F[i] (mulR (dm (a.ah.take k) i) a.ay)) (λk x f hk p T=>?_) (λx f p=>?_) ⟨rfl,rfl,S,λi h j=>?_⟩ (by omega)
 ·obtain ⟨U,G⟩:=x;obtain ⟨rfl,g,m,d⟩:=p;dsimp only at g m d ⊢;have q:=N.mem _ (bC hk);have O:a.ah[k].Node.toNat<G.length:=by omega
  have u:a.ah[k].Node.toNat<F.length:=by omega
  have K:((a.ah[k].Node.toNat:Nat):Int)=a.ah[k].Node:=by omega
  have W:=mg hk a.ah[k].Node;rw[if_pos rfl] at W;have le:=Yh nn (k+1) a.ah[k].Node;have n0:=xU (l:=a.ah.take k) (λx p=>nn x (Ky p)) a.ah[k].Node;have L:=d _ O u;rw[K] at L;have bad:(∃c,cmp c G[a.ah[k].Node.toNat]-a.ah[k].aL * cmp c a.ay<0)->¬um F a:=λ⟨c,w⟩ y=>by
   have M:=rB.1 (y _ u) c;rw[qi,Ci,zr,K] at M;rw[L,Ci,zr] at w;have z:0<=cmp c a.ay:=(rB.1 E c).1;have h3:(dm (a.ah.take k) a.ah[k].Node+a.ah[k].aL) * cmp c a.ay<=dm a.ah a.ah[k].Node * cmp c a.ay:=yAW (by omega) z
   grind
  simp only[cR hk,if_true,bY hk,aw,bU (show k<1000000 by omega)];refine (Mq E q.2.2).bind λr s=>?_;simp only[bx,bg,Jt,ne_eq,UJ];refine ⟨λh=>⟨⟨λj=>absurd j h,λy=>?_⟩,λj=>absurd j h⟩,λh=>?_⟩
  ·exfalso;refine bad ?_ y;have n:¬aN (mulR a.ah[k].aL a.ay):=λv=>h (s.1.2 v);rw[rB] at n;obtain ⟨c,w⟩:=Classical.not_forall.1 n;refine ⟨c,?_⟩;rw[zr] at w;have M:=eW (show 0<=a.ah[k].aL/\a.ah[k].aL<=64 by omega) (rB.1 E c)
   grind [rB,List.getElem_mem]
  ·have Y:=s.2 h;have Z:=s.1.1 h;obtain ⟨aa,e⟩:=FF (l:=G) (x:=a.ah[k].Node) (by omega) (by omega);rw[e,aw,Y];refine (YW (m _ (bC O)) Z).bind λr2 t=>?_;simp only[aw,bx,bg,Jt,ne_eq,UJ];refine ⟨λj=>⟨⟨λz=>absurd z j,λy=>?_⟩,λz=>absurd z j⟩,λj=>?_⟩
   ·exfalso;refine bad ?_ y;have n:¬aN (fw G[a.ah[k].Node.toNat] (mulR a.ah[k].aL a.ay)):=λv=>j (t.1.2 v);rw[rB] at n;obtain ⟨c,w⟩:=Classical.not_forall.1 n;refine ⟨c,?_⟩;rw[Ci,zr] at w;have M:=eW (show 0<=a.ah[k].aL/\a.ah[k].aL<=64 by omega) (rB.1 E c)
    grind [rB,List.getElem_mem]
   ·have e2:=t.2 j;have v2:=t.1.1 j;refine T _ ⟨rfl,by simp_all,λr ab=>?_,λi hi ad=>?_⟩
    ·grind
    ·dsimp only at hi ⊢;rw[WC] at hi;rw[List.getElem_set];have A:=mg hk (i:Int);split
     ·rename_i ei;subst ei;rw[e2,L];rw[if_pos K.symm] at A;rw[A];refine OH λc=>?_;rw[Ci,Ci,Ci,zr,zr,zr,Int.add_mul,K];omega
     grind
 ·obtain ⟨U,G⟩:=x;obtain ⟨rfl,g,m,d⟩:=p;dsimp only at g m d ⊢;simp only[eL,bX,cr,bg,xr,Oj,true_implies] at d ⊢;refine ⟨λi h=>?_,g,λi h=>d i h (by omega)⟩;have:=m _ (bC (show i<G.length by omega));rw[d i (by omega) h] at this;exact this
 ·refine OH λc=>?_;rw[Ci,zr];simp[dm]
theorem He{a:bV}(h:a.ah.length<=1000000):iV 5000 a=some a:=by simp only[iV,zbu,FR h,aw]
structure tR (M:List (Int×bV)) (F:List aD) (a:bV):Prop where
 Ej:1<=a.aW/\a.aW<=1048576
 some':a.ah≠[]
 shares:ba a.ah F.length
 need:aN a.ay
 free:dq M a.aW=none
 fits:um F a
theorem Jp{M:List (Int×bV)}{a:bV}{F:List aD}(g:F.length<=300)(hl:a.ah.length<=300)(i:∀r∈F,aN r) :
  bR (zaW 5000 M a F) λr=>(r.2.1=0↔tR M F a)/\(r.2.1=0->r.1=kr M a.aW a/\qy F a r.2.2):=by
 simp only[zaW,fA,if_true,bX,cr];have no:∀{p:Prop}{x:List (Int×bV)×Int×List aD}{q:Prop},¬p->x.2.1≠0->bR (some x) (λr=>(r.2.1=0↔p)/\(r.2.1=0->r.1=kr M a.aW a/\qy F a r.2.2)):=λ{p x q} l m=>by grind [bg]
 rw[bx];refine ⟨λh=>?_,λh=>?_⟩
 ·simp only[gz,bz,nh] at h;refine no (q:=True) (λt=>?_) (by simp);have:=t.Ej;rcases h with h | h
  ·omega
  ·exact t.some' (WX (by omega))
 ·simp only[gz,bz,nh,not_or] at h;refine (nK _ _ hl).bind λr j=>?_;rw[bx];refine ⟨λe=>no (q:=True) (λt=>by grind [tR.shares]) (by simp),λe=>?_⟩;simp only[im,nO] at e;have S:=j.1 e;refine (Uf a.ay).bind λn f=>?_;rw[bx];refine ⟨λe=>no (q:=True) (λt=>by grind [tR.need]) (by simp),λe=>?_⟩;simp only[im,nO] at e;have V:=f.1 e;cases k:dq M a.aW with
  |some v=>exact no (q:=True) (λt=>by grind [tR.free]) (by simp)
  |none=>
   simp only[oel];refine (Uc g hl S V i).bind λs d=>?_;rw[bx];refine ⟨λe=>?_,λe=>?_⟩
   ·simp only[Jt,ne_eq] at e;exact no (q:=True) (λt=>e (d.1.2 t.fits)) e
   ·simp only[Jt,ne_eq,UJ] at e;rw[He (by omega),aw,bg];refine ⟨⟨λ_=>⟨by omega,λu=>?_,S,V,k,d.1.1 e⟩,λ_=>rfl⟩,λ_=>⟨rfl,d.2 e⟩⟩
    simp_all
theorem cX{p:Prop}(h:¬p):bR (some false) (λb=>b=true↔p):=by grind [bg]
theorem rH{p:Prop}(h:p):bR (some true) (λb=>b=true↔p):=by grind [bg]
structure Py (s:bm) (st:ca):Prop where
 now:0<=st.aX/\st.aX<=1099511627776
 next:1<=st.Next/\st.Next<=s.jG+1
 book:1<=st.dE/\st.dE<=281474976710656
theorem Po{s:bm}(k:br s)(st:ca):gh (jz 5000 s st) (Py s st):=by have f:=k.ids;simp only[jz,zdj,aw,gh];rw[wr (x:=s.jG+1) (by omega) (by omega)];simp only[bx,bg,bI,bz,bX,ET];exact ⟨λa=>⟨λd=>⟨λe=>⟨a,d,e⟩,λh=>h.book⟩,λd h=>d h.next⟩,λa h=>a h.now⟩
def i_(x:Int):Int:=if x=3 then 1 else if x=4 then 2 else if x=5\/x=6 then 3 else 0
theorem DD(x:Int):0<=i_ x/\i_ x<=3:=by unfold i_;split <;> (try split) <;> (try split) <;> omega
theorem YK(x:Int):oh 5000 x=some (i_ x):=by
 simp only[oh,Vk,aw,nh,gz]
 grind [i_]
structure f_ (s:bm) (st:ca) (j:aM):Prop where
 ok:gn j
 next:j.Id<st.Next
 user:j.cu<s.aR
 queue:j.Queue<s.aq.length
 born:j.cI<=st.aX
 start:j.Start<=st.aX
 fin:j.End<=st.aX
 version:j.aJ<=s.aI+i_ j.State
def HU(l:List aM):Nat->Int
 |0=>0
 |i+1=>((l[i]?).map (·.Id)).getD 0
theorem vA{l:List aM}{i:Nat}(h:i<l.length):HU l (i+1)=l[i].Id:=by simp[HU,h]
structure dw (s:bm) (st:ca):Prop where
 len:(st.aj.length:Int)<=s.aj
 each:∀j∈st.aj,f_ s st j
 bN:bW st.aj
theorem RQ{s:bm}{st:ca}(h:(st.aj.length:Int)<=s.aj)(g:∀i (h:i<st.aj.length),f_ s st st.aj[i]/\HU st.aj i<st.aj[i].Id):dw s st:=
 ⟨h,λj a=>by grind [List.getElem_of_mem],λi hi=>by grind [vA]⟩
theorem dw.cK{s:bm}{st:ca}(h:dw s st)(i:Nat)(hi:i<st.aj.length):f_ s st st.aj[i]/\HU st.aj i<st.aj[i].Id:=by
 refine ⟨h.each _ (bC hi),?_⟩
 match i,hi with
 |0,hi=>have:=(h.each _ (bC hi)).ok.id;grind [HU]
 |i+1,hi=>rw[vA (by omega)];exact h.bN i hi
theorem dw.ids{s:bm}{st:ca}(h:dw s st):∀j∈st.aj,0<=j.Id/\j.Id<=1048576:=λj i=>by have:=(h.each j i).ok.id;omega
theorem max3{a b c n:Int}:(if c > (if b > a then b else a) then c else (if b > a then b else a)) > n↔a > n\/b > n\/c > n:=by omega
theorem jobs_ok{s:bm}(k:br s){st:ca}(n:lw s st):gh (qB 5000 s st) (dw s st):=by
 have y:=k.tO;have hl:=n.bq;simp only[qB,fA,YK,aw];rw[gh,bx];refine ⟨λh=>cX λq=>?_,λp=>?_⟩
 ·have:=q.len
  grind
 ·simp only[bz] at p;refine jj st.aj.length (λi x=>x=(HU st.aj i,(i:Int))/\∀j (h:j<st.aj.length),j<i->f_ s st st.aj[j]/\HU st.aj j<st.aj[j].Id) (λi x f hi e t=>?_) (λx f e=>?_) ⟨rfl,λj h g=>by omega⟩ (by omega)
  ·obtain ⟨rfl,m⟩:=e;simp only[cR hi,if_true,bY hi,aw,bU (show i<1000000 by omega)];refine (Bf _).bind λr d=>?_;rw[bx];refine ⟨λh=>cX λq=>?_,λh=>?_⟩
   ·have a:=q.cK i hi;have z:=d.2 a.1.ok;have A:=a.1.next
    grind
   ·simp only[gz,bz,not_or,im,nO] at h;have a:=d.1 h.1.1;rw[bx];refine ⟨λh=>cX λq=>?_,λu=>?_⟩
    ·have a:=(q.cK i hi).1;have:=a.user;have:=a.queue
     grind
    ·simp only[gz,bz,not_or] at u;rw[bx];refine ⟨λh=>?_,λv=>?_⟩
     ·refine cX λq=>?_;have a:=(q.cK i hi).1;have:=a.born;have:=a.start;have:=a.fin
      grind
     ·simp only[bz,max3] at v;have E:=DD st.aj[i].State;rw[wr (x:=s.aI+i_ _) (by omega) (by omega),bx];refine ⟨λh=>cX λq=>?_,λw=>t _ ⟨by rw[vA hi],λj F l=>?_⟩⟩
      ·have a:=(q.cK i hi).1.version
       grind
      ·simp only[bz] at w;rcases WB (yCx.1 l) with g | g
       ·simp_all
       ·subst g;exact ⟨⟨a,by omega,by omega,by omega,by omega,by omega,by omega,by omega⟩,by omega⟩
  ·obtain ⟨rfl,m⟩:=e;simp only[eL,bX,cr];exact rH (RQ (by omega) λi hi=>m i hi hi)
structure WaitsIn (s:bm) (st:ca) (j:aM):Prop where
 fits:jk 5000 s j.Queue j.aL j.ay=some true
 after:∀d∈j.aF,∃i∈st.aj,i.Id=d.aW
def Gc(s:bm)(st:ca)(j:aM):Prop:=j.State<5->WaitsIn s st j
theorem Pg{s:bm}(k:br s){st:ca}(n:lw s st)(J:dw s st):gh (jy 5000 s st) (∀j∈st.aj,Gc s st j):=by
 have hl:=n.bq;simp only[jy,fA,Vk,aw];refine Od st.aj (Gc s st) _ (λh=>h) (λi f hi Q p t=>?_) (λf h=>?_) (by omega)
 ·simp only[cR hi,if_true,bY hi,aw,bU (show i<1000000 by omega)];have a:=J.each _ (bC hi);have x:=a.ok.state.st;rw[bx];refine ⟨λh=>p λhs=>?_,λh=>?_⟩
  ·grind
  ·simp only[gz,nh,not_or] at h;have hs:st.aj[i].State<5:=by omega
   obtain ⟨b,u,A⟩:=Qw n.spec k (q:=st.aj[i].Queue) (m:=st.aj[i].aL) a.ok.need a.ok.ux;rw[u,aw,bx];refine ⟨λhb=>?_,λhb=>?_⟩
   ·rw[bg];refine t λw=>?_;have:=(w hs).fits
    simp_all
   ·simp only[im,nO] at hb;subst hb;have E:=a.ok.mO;refine wi st.aj[i].aF (λ_ d=>∃j∈st.aj,j.Id=d.aW) (λm g e v y=>?_) (λg v=>?_) (by omega)
    ·simp only[cR e,if_true,bY e,aw,bU (show m<1000000 by omega)];have F:=a.ok.after _ (bC e);have z:=a.ok.id;refine (Qr (by omega) J.bN (id:=st.aj[i].aF[m].aW) (by omega) J.ids).bind λr l=>?_;rw[bx];refine ⟨λhb=>?_,λhb=>y ?_⟩
     ·rw[bg];refine t λw=>?_;have:=l.1.2 ((w hs).after _ (bC e))
      simp_all
     simp_all
    ·simp only[eL,bX,cr];exact p λ_=>⟨u,CI v⟩
 ·simp only[eL,bX,cr];exact rH h
structure LV (s:bm) (st:ca):Prop where
 len:(st.kH.length:Int)=s.aR
 use:∀x∈st.kH,0<=x/\x<=1099511627776
 qlen:st.az.aq.length=s.aq.length
 nodes:0<=st.az.ai/\st.az.ai<=281474976710656
 stamps:∀x∈st.az.aq,0<=x/\x<=281474976710656
theorem Nm(l:List Int)(hl:l.length<=300):gh (oe 5000 l) (∀x∈l,0<=x/\x<=1099511627776):=by
 simp only[oe];refine Od l (λx=>0<=x/\x<=1099511627776) _ (λh=>h) (λi f hi Q a d=>?_) (λf h=>?_) (by omega)
 ·simp only[cR hi,if_true,bY hi,aw,bU (show i<1000000 by omega),bx,bg,gz,bz]
  grind
 ·simp only[eL,bX,cr];exact rH h
theorem XB{s:bm}{st:ca}(j:lw s st):gh (oq 5000 s st) (LV s st):=by
 have l:=j.use;have m:=j.stamps;simp only[oq,fA,zdj,aw,if_true];rw[gh,bx];refine ⟨λh=>cX λq=>?_,λh=>?_⟩
 ·simp only[Jt,ne_eq] at h;exact h q.len
 ·simp only[Jt,ne_eq,UJ] at h;refine (Nm st.kH (by omega)).bind λr k=>?_;rw[bx];refine ⟨λa=>cX λq=>?_,λa=>?_⟩
  ·have:=k.2 q.use
   simp_all
  ·simp only[im,nO] at a;rw[bx];refine ⟨λd=>cX λq=>?_,λd=>?_⟩
   ·simp only[Jt,ne_eq] at d
    grind [LV.qlen]
   ·simp only[Jt,ne_eq,UJ] at d;rw[bx];refine ⟨λe=>cX λq=>?_,λe=>?_⟩
    ·grind [LV.nodes]
    ·simp only[im,nO,bI,bz] at e;refine Od st.az.aq (λx=>0<=x/\x<=281474976710656) _ (λh=>h.stamps) (λi f hi Q n p=>?_) (λf g=>?_) (by omega)
     ·simp only[cR hi,if_true,bY hi,aw,bU (show i<1000000 by omega),bx,bg,im,yBB,yBo]
      grind
     ·simp only[eL,bX,cr];exact rH ⟨h,k.1 a,by omega,e,g⟩
theorem ref_use(l:List Int)(n:Int)(hl:l.length<=300):gh (zeJ 5000 l n) ((l.length:Int)=n/\∀x∈l,0<=x/\x<=1099511627776):=by
 simp only[zeJ,fA];refine Od l (λx=>0<=x/\x<=1099511627776) _ (λh=>h.2) (λi f hi Q a d=>?_) (λf h=>?_) (by omega)
 ·simp only[cR hi,if_true,bY hi,aw,bU (show i<1000000 by omega),bx,bg,bz]
  grind
 ·simp only[eL,bX,cr,bg,nh]
  simp_all
theorem Iv(x:Int):gh (zbk 5000 x) (0<=x/\x<=281474976710656):=by simp only[zbk,gh,bg,bI,bz,ge_iff_le]
structure dJ (l:List bM):Prop where
 ne:0<l.length
 inc:∀i (h:i+1<l.length),l[i].At<l[i+1].At
 each:∀s∈l,(0<=s.At/\s.At<=281474976710656)/\aN s.cq
theorem dJ.lt{l:List bM}(h:dJ l):∀{i j:Nat}(s:i<j)(u:j<l.length),l[i].At<l[j].At:=by
 intro i j s u;induction j with
 |zero=>omega
 |succ j ih=>
  have x:=h.inc j u
  grind
theorem dJ.le{l:List bM}(h:dJ l){i j:Nat}(s:i<=j)(x:j<l.length):l[i].At<=l[j].At:=by
 rcases WB s with u | u
 ·have:=h.lt u x;omega
 simp_all
theorem dJ.idx{l:List bM}(h:dJ l){i j:Nat}(hi:i<l.length)(u:j<l.length)(e:l[i].At=l[j].At):i=j:=by
 rcases Vo i j with s | s | s
 ·have:=h.lt s u;omega
 ·exact s
 ·have:=h.lt s hi;omega
theorem dJ.inj{l:List bM}(h:dJ l){a b:bM}(s:a∈l)(hb:b∈l)(e:a.At=b.At):a=b:=by
 obtain ⟨i,hi,rfl⟩:=iW s;obtain ⟨j,u,rfl⟩:=iW hb;have:=h.idx hi u e
 simp_all
def FY(l:List bM):Int:=l.foldl (λ_ s=>s.At) (-1)
theorem yj{l:List bM}{i:Nat}(h:i<l.length):FY (l.take (i+1))=l[i].At:=by rw[Fk h,FY,List.foldl_append];rfl
def OF(l:List bM)(i:Nat)(s:bM):Prop:=FY (l.take i)<s.At/\s.At<=281474976710656/\aN s.cq
theorem stOk_of{l:List bM}(d:0<l.length)(h:∀i (hi:i<l.length),OF l i l[i]):dJ l:=by
 have a:∀i (h:i+1<l.length),l[i].At<l[i+1].At:=λi hi=>by
  have:=(h (i+1) hi).1
  grind [yj]
 have e:∀i (hi:i<l.length),0<=l[i].At:=by
  intro i;induction i with
  |zero=>intro hi;have:=(h 0 hi).1;grind [FY]
  |succ i ih=>grind
 exact ⟨d,a,CI (A:=λs=>(0<=s.At/\s.At<=281474976710656)/\aN s.cq) λi hi=>⟨⟨e i hi,(h i hi).2.1⟩,(h i hi).2.2⟩⟩
theorem dJ.cK{l:List bM}(h:dJ l)(i:Nat)(hi:i<l.length):OF l i l[i]:=by
 have e:=h.each _ (bC hi);refine ⟨?_,e.1.2,e.2⟩
 match i,hi with
 |0,hi=>grind [FY]
 |i+1,hi=>rw[yj (by omega)];exact h.inc i hi
theorem ML(l:List bM)(hl:l.length<=1000):gh (zd5 5000 l) (dJ l):=by
 unfold zd5;refine jj l.length (λi x=>x=(FY (l.take i),(i:Int))/\∀j (m:j<l.length),j<i->OF l j l[j]) (λi x f hi d n=>?_) (λx f d=>?_) ⟨rfl,λj _ h=>by omega⟩ (by omega)
 ·obtain ⟨rfl,p⟩:=d;simp only[fA];rw[if_pos (cR hi),bY hi,aw,bx];refine ⟨λh=>?_,λh=>?_⟩
  ·rw[if_pos trivial];refine cX λq=>?_;have:=q.cK i hi;simp only[gz,bz] at h;have:=this.1;have:=(q.cK i hi).2.1;omega
  ·refine (Uf _).bind λr a=>?_;rw[bx];refine ⟨λe=>cX λq=>?_,λe=>?_⟩
   ·have:=a.2 (q.cK i hi).2.2
    simp_all
   ·simp only[im,nO] at e;simp only[gz,bz,not_or] at h;rw[bU (show i<1000000 by omega)];refine n _ ⟨by rw[yj hi],λj m g=>?_⟩;rcases WB (yCx.1 g) with k | k
    ·simp_all
    ·subst k;exact ⟨by omega,by omega,a.1 e⟩
 ·obtain ⟨rfl,p⟩:=d;simp only;rw[if_neg (by simp),bg,bz]
  grind [stOk_of,dJ.ne]
theorem jx{l:List bM}(hl:l.length<=1000)(h:dJ l):zd5 5000 l=some true:=by
 obtain ⟨r,e,a⟩:=ML l hl
 simp_all
structure Idx (l:List bM) (t:Int) (k:Nat):Prop where
 le:k<=l.length
 lo:∀i (h:i<l.length),i<k->l[i].At<=t
 hi:∀i (h:i<l.length),k<=i->t<l[i].At
theorem zcH{l:List bM}(hl:l.length<=1000)(hs:dJ l)(t:Int):bR (fT 5000 l t) λr=>∃k,Idx l t k/\r=(k:Int)-1:=by
 unfold fT;rw[jV];refine lpM (λx=>∃i j:Nat,x=((i:Int),(j:Int))/\i<=j/\j<=l.length/\(∀k (h:k<l.length),k<i->l[k].At<=t)/\(∀k (h:k<l.length),j<=k->t<l[k].At)) (λx=>(x.2-x.1).toNat) (λx f q e=>?_) ⟨0,l.length,rfl,by omega,by omega,λk h hk=>by omega,λk h hk=>by omega⟩ (by omega);obtain ⟨i,j,rfl,s,g,m,n⟩:=q;rw[bx];dsimp only;refine ⟨λh=>?_,λh=>?_⟩
 ·simp only[bz] at h;rw[mid (by omega)];have p:(i+j) / 2<l.length:=by omega
  rw[bY p,aw,aw,bx];refine ⟨λd=>?_,λd=>?_⟩
  ·simp only[im,yBo] at d;rw[bU (by omega)];refine e _ ⟨(i+j) / 2+1,j,rfl,by omega,g,λk hk a=>?_,n⟩ (by omega);have:=hs.le (show k<=(i+j) / 2 by omega) p;omega
  ·simp only[im,yBo] at d;refine e _ ⟨i,(i+j) / 2,rfl,by omega,by omega,m,λk hk a=>?_⟩ (by omega);have:=hs.le a hk;omega
 ·simp only[bz] at h;have:i=j:=by omega
  subst this;simp only[bg];exact ⟨i,⟨g,m,n⟩,by grind [wr]⟩
theorem Idx.pos{l:List bM}{t:Int}{k:Nat}(h:Idx l t k)(hs:dJ l)(i:(l[0]'hs.ne).At<=t):0<k:=by
 rcases Nat.eq_zero_or_pos k with e | e
 ·subst e;have:=h.hi 0 hs.ne (cO _);omega
 omega
def xO(l:List bM)(t:Int)(r:aD):Prop:=∃s∈l,s.At<=t/\(∀a∈l,a.At<=t->a.At<=s.At)/\s.cq=r
theorem xO.Al{l:List bM}(hs:dJ l){t:Int}{r j:aD}(h:xO l t r)(u:xO l t j):r=j:=by obtain ⟨s,x,F,G,rfl⟩:=h;obtain ⟨z,i,A,E,rfl⟩:=u;have:s=z:=hs.inj x i (by grind);rw[this]
theorem xO.ok{l:List bM}(hs:dJ l){t:Int}{r:aD}(h:xO l t r):aN r:=by obtain ⟨s,i,_,_,rfl⟩:=h;exact (hs.each s i).2
theorem Idx.vat{l:List bM}{t:Int}{k:Nat}(h:Idx l t (k+1))(hs:dJ l)(hk:k<l.length):xO l t l[k].cq:=by
 refine ⟨l[k],bC hk,h.lo k hk (by omega),λj RD s=>?_,rfl⟩;obtain ⟨i,hi,rfl⟩:=iW RD;by_cases q:i<=k
 ·exact hs.le q hk
 ·have:=h.hi i hi (by omega);omega
structure Fj (L:List aD) (r:aD):Prop where
 le:∀v∈L,∀c,cmp c r<=cmp c v
 cK:∀c,∃v∈L,cmp c v=cmp c r
def tA(a b:aD):aD:={ bA:=if b.bA<a.bA then b.bA else a.bA,Mem:=if b.Mem<a.Mem then b.Mem else a.Mem,bE:=if b.bE<a.bE then b.bE else a.bE,bG:=if b.bG<a.bG then b.bG else a.bG }
theorem Ho(c:Nat)(a b:aD):cmp c (tA a b)=if cmp c b<cmp c a then cmp c b else cmp c a:=by match c with | 0=>rfl | 1=>rfl | 2=>rfl | _+3=>rfl
theorem Zd(a b:aD):zdI 5000 a b=some (tA a b):=by
 have d:∀x y:Int,zcB 5000 x y=some (if y<x then y else x):=λx y=>by
  unfold zcB
  grind
 simp only[zdI,d,aw,tA]
theorem Fj.one(v:aD):Fj [v] v:=⟨λw i c=>by simp_all,λc=>⟨v,by simp,rfl⟩⟩
theorem Fj.add{L:List aD}{r:aD}(h:Fj L r)(v:aD):Fj (L++[v]) (tA r v):={
 le:=λw hw c=>by
  rw[Ho];rcases ld.1 hw with hw | hw
  ·have:=h.le w hw c;omega
  grind
 cK:=λc=>by
  rw[Ho];split
  ·simp_all
  ·obtain ⟨w,hw,e⟩:=h.cK c;grind }
structure Qb (V:Int->aD->Prop) (a b:Int) (r:aD):Prop where
 le:∀t v,a<=t->t<b->V t v->∀c,cmp c r<=cmp c v
 cK:∀c,∃t v,a<=t/\t<b/\V t v/\cmp c v=cmp c r
theorem Qb.Al{V:Int->aD->Prop}{a b:Int}{r u:aD}(h:Qb V a b r)(x:Qb V a b u):r=u:=OH λc=>by obtain ⟨t,v,z,A,E,e⟩:=h.cK c;obtain ⟨F,G,i,j,s,K⟩:=x.cK c;have:=h.le F G i j s c;have:=x.le t v z A E c;omega
theorem Qb.iff{V W:Int->aD->Prop}{a b:Int}{r:aD}(h:Qb V a b r)(u:∀t v,a<=t->(V t v↔W t v)):Qb W a b r:=
 ⟨λt v i j s=>h.le t v i j ((u t v i).2 s),λc=>by obtain ⟨t,v,i,j,s,e⟩:=h.cK c;grind⟩
theorem jT{α:Type}{l:List α}{i:Nat}(h:i<=l.length):slice? l (i:Int) (l.length:Int)=some (l.drop i):=by
 unfold slice?
 simp_all
theorem Mm{l:List bM}(hl:l.length<=1000)(hs:dJ l){a b:Int}(y:(l[0]'hs.ne).At<=a)(p:a<b):bR (nF 5000 l a b) (Qb (xO l) a b):=by
 unfold nF;simp only[fA];rw[jx hl hs,aw,if_neg (by simp)];rw[show (0:Int)=((0:Nat):Int) from rfl,bY hs.ne,aw,if_neg (by simp_all)];refine (zcH hl hs a).bind λr q=>?_;obtain ⟨k,hk,rfl⟩:=q;have S:=hk.pos hs y;have z:=hk.le;obtain ⟨m,rfl⟩:∃m,k=m+1:=⟨k-1,by omega⟩;rw[show ((m+1:Nat):Int)-1=(m:Int) by omega,bY (show m<l.length by omega),aw,bU (by omega),jT (by omega),aw];have fin:∀(n:Nat)(v:aD),n<=(l.drop (m+1)).length->(∀(j:Nat)(h:j<(l.drop (m+1)).length),j<n->(l.drop (m+1))[j].At<b)->(∀(j:Nat)(h:j<(l.drop (m+1)).length),n<=j->b<=(l.drop (m+1))[j].At) ->
   Fj (l[m].cq::((l.drop (m+1)).take n).map (·.cq)) v->Qb (xO l) a b v:=λn v T A U d=>by
  have len:(l.drop (m+1)).length=l.length-(m+1):=yBX ..;refine ⟨λt w W E hw c=>?_,λc=>?_⟩
  ·obtain ⟨s,F,Y,G,rfl⟩:=hw;obtain ⟨i,hi,rfl⟩:=iW F;have Z:=G l[m] (bC _) (by have:=hk.lo m (by omega) (by omega);omega);refine d.le _ ?_ c;by_cases e:i=m
   ·simp_all
   ·have K:m<i:=by
     rcases Vo i m with h | h | h
     ·have:=hs.lt h (by omega);omega
     ·omega
     omega
    have L:i-(m+1)<n:=by grind
    refine nS _ (iP.2 ⟨l[i],?_,rfl⟩)
    grind [List.mem_iff_getElem]
  ·obtain ⟨w,hw,e⟩:=d.cK c;rcases gu.1 hw with rfl | hw
   ·exact ⟨a,_,Pu _,p,hk.vat hs (by omega),e⟩
   ·obtain ⟨s,RD,rfl⟩:=iP.1 hw;obtain ⟨j,g,rfl⟩:=Nx.1 RD;rw[BV] at g;rw[SC] at e RD;have hb:=A j (by omega) (by omega);rw[yCk] at e hb;have ha:=hk.hi (m+1+j) (by omega) (by omega);refine ⟨l[m+1+j].At,_,by omega,hb,⟨l[m+1+j],bC _,Pu _,λs' _ h=>h,rfl⟩,e⟩
 refine jj (l.drop (m+1)).length (λi x=>∃v:aD,x=((i:Int),v.bA,v.Mem,v.bE,v.bG)/\Fj (l[m].cq::((l.drop (m+1)).take i).map (·.cq)) v/\∀j (h:j<(l.drop (m+1)).length),j<i->(l.drop (m+1))[j].At<b) (λi x f hi u q=>?_) (λx f u=>?_)
  ⟨l[m].cq,rfl,Fj.one _,λj _ h=>by omega⟩ (by grind)
 ·obtain ⟨v,rfl,d,hb⟩:=u;have M:m+1+i<l.length:=by grind
  dsimp only;rw[if_pos (cR hi),bY hi,aw,bx];refine ⟨λh=>?_,λh=>?_⟩
  ·simp only[bz] at h;rw[bg];refine fin i v (yCu hi) hb (λj g N=>?_) d;rw[yCk] at h ⊢;have:=hs.le (show m+1+i<=m+1+j by omega) (by grind);omega
  ·simp only[bz] at h;rw[show ∀b,Bl 5000 ({ bA:=v.bA,Mem:=v.Mem,bE:=v.bE,bG:=v.bG }:aD) b=some (tA v b) from λb=>rfl,aw,bU (show i<1000000 by omega)];refine q _ ⟨tA v (l.drop (m+1))[i].cq,rfl,?_,λj g O=>?_⟩
   ·rw[Fk hi,yBL,<-JS];exact d.add _
   grind
 ·obtain ⟨v,rfl,d,hb⟩:=u;dsimp only;rw[if_neg (by simp),bg];exact fin _ v (cO _) (λj g h=>hb j g h) (λj g h=>by omega) d
structure Kept (l r:List bM):Prop where
 ok:dJ r
 len:r.length<=l.length
 first:∀(h:0<l.length)(h':0<r.length),r[0].At=l[0].At
 sub:∀s∈r,s∈l
 val:∀t v,xO l t v->xO r t v
theorem eC{l:List bM}{i:Nat}(hi:i<l.length){s:bM}:s∈l.take (i+1)↔s∈l.take i\/s=l[i]:=by rw[Fk hi,ld,zK]
theorem xO.take{l:List bM}{i:Nat}(hi:i<l.length)(hs:dJ l){t:Int}{v:aD}(h:xO (l.take (i+1)) t v):(l[i].At<=t/\v=l[i].cq)\/(t<l[i].At/\xO (l.take i) t v):=by
 obtain ⟨s,x,z,u,rfl⟩:=h;rw[Fk hi] at x u;by_cases q:l[i].At<=t
 ·left;refine ⟨q,?_⟩;have A:=u l[i] (yBA _ (zK.2 rfl)) q;rcases ld.1 x with h | h
  ·obtain ⟨j,E,rfl⟩:=Nx.1 h;rw[BV] at E;rw[SC] at A ⊢;have:=hs.lt (show j<i by omega) hi;omega
  simp_all
 ·right;refine ⟨by omega,s,?_,z,λF G=>u F (yBF _ G),rfl⟩
  grind
theorem Yk{l:List bM}(hs:dJ l){s:bM}(h:∀x∈l,x.At<s.At)(d:(0<=s.At/\s.At<=281474976710656)/\aN s.cq):dJ (l++[s]):=by
 have:=hs.ne;refine ⟨by simp,λi hi=>?_,λx a=>?_⟩
 ·rw[yZ,xAe] at hi;rw[yCv (show i<l.length by omega)];by_cases e:i+1<l.length
  ·rw[yCv e];exact hs.inc i e
  simp_all
 ·rcases ld.1 a with a | a
  ·exact hs.each x a
  simp_all
theorem MD{l:List bM}(hl:l.length<=1000)(hs:dJ l):bR (nG 5000 l) (Kept l):=by
 have m:=hs.ne;unfold nG;rw[jx hl hs,aw,if_neg (by simp)];rw[show (0:Int)=((0:Nat):Int) from rfl,bY m,aw];rw[show slice? l 1 (l.length:Int)=some (l.drop 1) from jT m,aw];have N:(l.drop 1).length=l.length-1:=yBX ..;refine jj (l.drop 1).length (λi x=>x.1=(i:Int)/\Kept (l.take (i+1)) x.2/\∃(h:0<x.2.length)(hi:i<l.length),x.2[x.2.length-1].cq=l[i].cq) (λi x f hi r O=>?_) (λx f r=>?_) ?_ (by omega)
 ·obtain ⟨y,a⟩:=x;obtain ⟨rfl,hk,g,z,d⟩:=r;dsimp only at hk g d ⊢;have k:i+1<l.length:=by omega
  have u:=hk.len;rw[BV] at u;have F:(l.drop 1)[i]=l[i+1]:=by simp_all
  simp only[fA];rw[if_pos (cR hi),bY hi,aw,F,wr (x:=(a.length:Int)-1) (by omega) (by omega),show (a.length:Int)-1=((a.length-1:Nat):Int) by omega,bY (show a.length-1<a.length by omega),aw,bU (show i<1000000 by omega),d];have n:∀x∈a,x.At<l[i+1].At:=λx r=>by have:=hk.sub x r;obtain ⟨j,A,rfl⟩:=Nx.1 this;rw[BV] at A;rw[SC];exact hs.lt (by omega) k
  rw[bx];refine ⟨λh=>?_,λh=>?_⟩
  ·rw[Bi (by grind),aw];have K:Kept (l.take (i+1+1)) (a++[l[i+1]]):=by
    refine ⟨Yk hk.ok n (hs.each _ (bC _)),by grind,λh w=>?_,λs RD=>?_,λt v p=>?_⟩
    ·have:=hk.first (by grind) g
     simp_all
    ·rcases ld.1 RD with q | q
     ·exact (eC k).2 (.inl (hk.sub s q))
     grind [eC]
    ·rcases p.take k hs with ⟨q,rfl⟩ | ⟨q,p⟩
     ·exact ⟨l[i+1],yBA _ (zK.2 rfl),q,λE w _=>by grind,rfl⟩
     ·obtain ⟨s,G,L,S,M⟩:=hk.val t v p;exact ⟨s,yBF _ G,L,λE w T=>by grind,M⟩
   simp_all
  ·have e:l[i+1].cq=l[i].cq:=by
    simp only[im,nO] at h;simp only[bM.beq,bI,nh,fy] at h
    simp_all
   have K:Kept (l.take (i+1+1)) a:=by
    refine ⟨hk.ok,by grind,λh w=>?_,λs RD=>(eC k).2 (.inl (hk.sub s RD)),λt v p=>?_⟩
    ·have:=hk.first (by grind) g
     simp_all
    ·rcases p.take k hs with ⟨q,rfl⟩ | ⟨q,p⟩
     ·refine ⟨a[a.length-1],bC _,by grind,λE w _=>?_,by simp_all⟩;obtain ⟨j,A,rfl⟩:=iW w;exact hk.ok.le (by omega) (by omega)
     ·exact hk.val t v p
   simp_all
 ·obtain ⟨y,a⟩:=x;obtain ⟨rfl,hk,g,z,d⟩:=r;dsimp only at hk ⊢;rw[if_neg (by simp),bg]
  grind
 ·have e:l.take 1=[l[0]]:=by grind [List.take_succ_eq_append_getElem]
  refine ⟨rfl,?_,by simp,m,rfl⟩;rw[Pe,e];refine ⟨⟨by simp,λi h=>by simp at h,λs h=>by simp at h;subst h;exact hs.each _ (bC _)⟩,by simp,λ_ _=>rfl,λs h=>h,λt v h=>h⟩
theorem dJ.pw{l:List bM}(h:dJ l):l.Pairwise λa b=>a.At<b.At:=yBh.2 λi j hi u s=>h.lt s u
theorem stOk_pw{l:List bM}(d:0<l.length)(h:l.Pairwise λa b=>a.At<b.At)(e:∀s∈l,(0<=s.At/\s.At<=281474976710656)/\aN s.cq):dJ l:=
 ⟨d,λi hi=>yBh.1 h i (i+1) (by omega) hi (by omega),e⟩
theorem xO.ex{l:List bM}(hs:dJ l){t:Int}(x:(l[0]'hs.ne).At<=t):∃v,xO l t v:=by
 have:∀n,0<n->n<=l.length->∃v,xO (l.take n) t v:=by
  intro n;induction n with
  |zero=>omega
  |succ n ih=>
   intro _ K;rcases Nat.eq_zero_or_pos n with rfl | z
   ·refine ⟨l[0].cq,l[0],?_,x,λu i _=>?_,rfl⟩
    ·grind [eC]
    ·rcases (eC (show 0<l.length by omega)).1 i with i | e
     ·grind
     simp_all
   ·obtain ⟨v,s,A,E,M,F⟩:=ih z (by omega);by_cases q:l[n].At<=t
    ·refine ⟨l[n].cq,l[n],(eC (by omega)).2 (.inr rfl),q,λu i _=>?_,rfl⟩;rcases (eC (show n<l.length by omega)).1 i with i | e
     ·obtain ⟨j,G,rfl⟩:=Nx.1 i;rw[BV] at G;rw[SC];exact hs.le (by omega) (by omega)
     simp_all
    ·refine ⟨v,s,(eC (by omega)).2 (.inl A),E,λu i O=>?_,F⟩
     grind [eC]
 have:=this l.length hs.ne (cO _)
 simp_all
theorem insS_ok{l:List bM}(hl:l.length<=2000)(x:bM){k:Nat}(hk:k<=l.length):zaX 5000 l [x] (k:Int)=some (l.take k++[x]++l.drop k):=by
 unfold zaX zaC;rw[jT hk,aw,if_neg (by simp)];by_cases e:k=l.length
 ·subst e;rw[if_pos (by simp),Bi (by grind),aw];simp[orE]
 ·rw[if_neg (by grind)];unfold orE No
  grind
structure CutOk (l:List bM) (t:Int) (r:List bM):Prop where
 ok:dJ r
 len:r.length<=l.length+1
 first:∀(h:0<l.length)(h':0<r.length),r[0].At=l[0].At
 val:∀u v,xO l u v->xO r u v
 cK:∃s∈r,s.At=t
 Vd:∀s∈l,s∈r
theorem lh{l:List bM}(hl:l.length<=1000)(hs:dJ l){t:Int}(A:(l[0]'hs.ne).At<=t)(T:t<=281474976710656):bR (pX 5000 l t) (CutOk l t):=by
 unfold pX;refine (zcH hl hs t).bind λr E=>?_;obtain ⟨k,hk,rfl⟩:=E;have U:=hk.pos hs A;have i:=hk.le;obtain ⟨m,rfl⟩:∃m,k=m+1:=⟨k-1,by omega⟩;have d:m<l.length:=by omega
 unfold za3;rw[show ((m+1:Nat):Int)-1=(m:Int) by omega,FR (by omega),aw,bY d,aw,bx];refine ⟨λh=>?_,λh=>?_⟩
 ·simp only[nh] at h;exact bg.2 ⟨hs,by omega,λ_ _=>rfl,λu v h=>h,⟨_,bC d,h⟩,λs h=>h⟩
 ·simp only[nh] at h;have F:=hk.lo m d (by omega);have W:=hs.each _ (bC d);rw[aw,bU (show m<1000000 by omega),insS_ok (by omega) _ i,aw,bg];generalize Y:({ At:=t,cq:=l[m].cq }:bM)=x;have G:x.At=t:=by grind
  have K:x.cq=l[m].cq:=by grind
  have Z:∀s∈l.take (m+1),s.At<t:=λs RD=>by obtain ⟨j,e,rfl⟩:=Nx.1 RD;rw[BV] at e;rw[SC];have:=hs.le (show j<=m by omega) d;omega
  have hB:∀s∈l.drop (m+1),t<s.At:=λs RD=>by obtain ⟨j,e,rfl⟩:=Nx.1 RD;rw[yBX] at e;rw[yCk];exact hk.hi _ (by omega) (by omega)
  have n:l=l.take (m+1)++l.drop (m+1):=(J_ ..).symm;have f:=hs.pw;rw[n] at f;obtain ⟨p1,L,p3⟩:=NJ.1 f;have mem:∀s,s∈l.take (m+1)++[x]++l.drop (m+1)↔s∈l\/s=x:=λs=>by
   constructor
   ·grind
   grind
  refine ⟨stOk_pw (by grind) (NJ.2 ⟨NJ.2 ⟨p1,by simp,λa M b hb=>?_⟩,L,λa M b hb=>?_⟩) λs h=>?_,?_,λh p=>?_,λu v N=>?_,⟨x,(mem x).2 (.inr rfl),G⟩,λs h=>(mem s).2 (.inl h)⟩
  ·grind
  ·grind
  ·rcases (mem s).1 h with h | rfl
   ·exact hs.each s h
   grind
  ·grind
  ·grind
  ·obtain ⟨s,g,w,O,rfl⟩:=N;by_cases q:t<=u
   ·have S:=O l[m] (bC d) (by omega);by_cases q2:s.At<t
    ·have:s=l[m]:=by
      obtain ⟨j,e,rfl⟩:=iW g;have:j<=m:=by
       rcases rE m j with h | h
       ·have:=hk.hi j e (by omega);omega
       omega
      have:=hs.le this d;exact hs.inj g (bC d) (by omega)
     subst this;exact ⟨x,(mem x).2 (.inr rfl),by omega,λy p z=>by grind,K⟩
    ·exact ⟨s,(mem s).2 (.inl g),w,λy p z=>by grind,rfl⟩
   ·exact ⟨s,(mem s).2 (.inl g),w,λy p z=>by grind,rfl⟩
theorem WG:kC=pX:=rfl
def uS(out:List bM)(need:aD)(a hi:Nat):List bM:=out.mapIdx λj s=>if a<=j/\j<hi then { At:=s.At,cq:=fw s.cq need } else s
theorem QN{out:List bM}{need:aD}{a hi:Nat}:(uS out need a hi).length=out.length:=by simp[uS]
theorem jM{out:List bM}{need:aD}{a hi j:Nat}(h:j<(uS out need a hi).length):(uS out need a hi)[j]=if a<=j/\j<hi then { At:=(out[j]'(by grind [QN])).At,cq:=fw (out[j]'(by grind [QN])).cq need } else out[j]'(by grind [QN]):=by grind [uS]
theorem vk{out:List bM}{need:aD}{a hi j:Nat}(h:j<(uS out need a hi).length):(uS out need a hi)[j].At=(out[j]'(by grind [QN])).At:=by grind [jM]
theorem X_(out:List bM)(need:aD)(a:Nat):uS out need a a=out:=yCq QN λj d e=>by rw[jM,if_neg (by omega)]
theorem Xc{out:List bM}{need:aD}{a i:Nat}(h:a+i<out.length):(uS out need a (a+i)).set (a+i) { At:=out[a+i].At,cq:=fw out[a+i].cq need }=uS out need a (a+(i+1)):=yCq (by simp[QN]) λj d f=>by
 rw[List.getElem_set];split
 ·rename_i e;subst e;rw[jM,if_pos ⟨by omega,by omega⟩]
 ·rw[jM,jM]
  grind
def wW(a b:aD):Prop:=∀c,cmp c a<=cmp c b
theorem aag{a b:aD}(d:aN a)(hb:aN b)(h:wW b a):aN (fw a b):=rB.2 λc=>by have:=rB.1 d c;have:=rB.1 hb c;have:=h c;rw[Ci];omega
structure Qn (l:List bM) (a b:Int) (need:aD) (r:List bM):Prop where
 ok:dJ r
 len:r.length<=l.length+2
 first:∀(h:0<l.length)(h':0<r.length),r[0].At=l[0].At
 val:∀t v,xO l t v->xO r t (if a<=t/\t<b then fw v need else v)
theorem xa{l:List bM}(hl:l.length<=900)(hs:dJ l){a b:Int}{need:aD}(L:aN need)(h0:(l[0]'hs.ne).At<=a)(ab:a<b)(hb:b<=281474976710656)
  (u:∀t v,a<=t->t<b->xO l t v->wW need v):bR (lY 5000 l a b need) λr=>r.2=0/\Qn l a b need r.1:=by
 unfold lY zd7;have w:=hs.ne;obtain ⟨rn,en,M⟩:=Uf need;have:=M.2 L;subst this;simp only[fA];rw[jx (by omega) hs,aw,if_neg (by simp),en,aw,if_neg (by simp)];rw[show (0:Int)=((0:Nat):Int) from rfl,bY w,aw,if_neg (by simp_all),WG];rw[jV];refine (lh (by omega) hs h0 (by omega)).bind λo1 c1=>?_;have W:=c1.ok.ne;have f1:=c1.first w W;have l1:=c1.len;refine (lh (by omega) c1.ok (t:=b) (by omega) hb).bind λout g=>?_;have n2:=g.ok.ne;have f2:=g.first W n2;have l2:=g.len;obtain ⟨sa,N,ad⟩:=c1.cK;obtain ⟨d,m,af⟩:=iW (g.Vd sa N);obtain ⟨sb,O,ak⟩:=g.cK;obtain ⟨e,he,eb⟩:=iW O;have aa:out[d].At=a:=by simp_all
 have bb:out[e].At=b:=by simp_all
 have val:∀t v,xO l t v->xO out t v:=λt v h=>g.val t v (c1.val t v h);have S:∀j (h:j<out.length),a<=out[j].At->out[j].At<b->aN (fw out[j].cq need):=λj h y A=>by obtain ⟨v,E⟩:=xO.ex hs (t:=out[j].At) (by omega);have:=(val _ _ E).Al g.ok ⟨out[j],bC h,Pu _,λs' _ h=>h,rfl⟩;subst this;exact aag (E.ok hs) L (u _ _ y A E)
 refine (zcH (by omega) g.ok a).bind λr p=>?_;obtain ⟨k,hk,rfl⟩:=p;have hp:=hk.pos g.ok (by omega);have an:=hk.le;have hm:k=d+1:=by
  rcases Vo k (d+1) with h | h | h
  ·have:=hk.hi d m (by omega);omega
  ·exact h
  ·have:=hk.lo (k-1) (by omega) (by omega);have:=g.ok.lt (show d<k-1 by omega) (by omega);omega
 subst hm;have av:d<e:=by
  rcases Vo d e with h | h | h
  ·exact h
  ·simp_all
  ·have:=g.ok.lt h m;omega
 rw[show ((d+1:Nat):Int)-1=(d:Int) by omega];have mid:∀j (h:j<out.length),d<=j->j<e->a<=out[j].At/\out[j].At<b:=λj h y A=>by have:=g.ok.le y h;have:=g.ok.lt A he;omega
 refine jj (e-d) (λi x=>x=(((d+i:Nat):Int),uS out need d (d+i))) (λi x f hi T p=>?_) (λx f T=>?_) (by rw[Nat.add_zero,X_]) (by omega)
 ·subst T;have n:d+i<out.length:=by omega
  obtain ⟨y,A⟩:=mid (d+i) n (by omega) (by omega);have F:(uS out need d (d+i))[d+i]'(by grind [QN])=out[d+i]:=by rw[jM,if_neg (by omega)]
  dsimp only;rw[bY (show d+i<(uS out need d (d+i)).length by grind),aw,F,if_pos (by simp_all),aw];refine (YW (g.ok.each _ (bC n)).2 L).bind λr G=>?_;have z:=G.1.2 (S _ n y A);rw[if_neg (by simp[z]),wh,G.2 z,bU (show d+i<1000000 by omega)]
  grind [Xc]
 ·subst T;rw[show d+(e-d)=e by omega];dsimp only;rw[bY (show e<(uS out need d e).length by grind [QN]),wh,vk,if_neg (by simp_all)];have Y:dJ (uS out need d e):=by
   refine ⟨by grind [QN],λi h=>?_,λs h=>?_⟩
   ·rw[vk,vk];exact g.ok.inc i (by grind [QN])
   ·obtain ⟨j,n,rfl⟩:=iW h;have K:=n;rw[QN] at K;have ej:=g.ok.each _ (bC K)
    grind [jM]
  refine (MD (by grind [QN]) Y).bind λr p=>?_;rw[bg,bg];have rl:=p.len;rw[QN] at rl;refine ⟨rfl,p.ok,by grind,λh Z=>?_,λt v E=>p.val _ _ ?_⟩
  ·have:=p.first Y.ne Z
   grind [vk]
  ·obtain ⟨s,h1,h2,h3,rfl⟩:=val t v E;obtain ⟨j,n,rfl⟩:=iW h1;have U:j<(uS out need d e).length:=by grind [QN]
   refine ⟨(uS out need d e)[j],bC U,by grind [vk],λs' Z ht=>?_,?_⟩
   ·grind [List.getElem_of_mem,vk]
   ·rw[jM];have ka:a<=t↔d<=j:=by
     constructor
     ·intro h;have:=h3 out[d] (bC m) (by omega);rcases rE j d with q | q
      ·have:=g.ok.lt q m;omega
      omega
     ·intro h;have:=g.ok.le h n;omega
    have kb:t<b↔j<e:=by
     constructor
     ·intro h;rcases rE j e with q | q
      ·exact q
      ·have:=g.ok.le q n;omega
     grind
    grind
end Go.Plain
end
