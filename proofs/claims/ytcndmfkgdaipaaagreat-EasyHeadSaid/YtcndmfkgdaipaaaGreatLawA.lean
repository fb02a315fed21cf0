/- Lemmas. -/
import Derived.Test.YtcndmfkgdaipaaaGreatTyPure
import Derived.KernelRfl
import Derived.Laws.BitsLemmas
set_option linter.all false
open Go.IntKind (i64 u64)
section
namespace Go.Plain
open Go.Abs
instance glT:Gl:={ ok:=λ_ _=>True,mono:=λ_ _=>trivial }
theorem wr{x:Int}(a:-9223372036854775808<=x)(d:x<9223372036854775808):i64.wrap x=x:=by rw[IntKind.wrap_i64];omega
theorem bY{i:Nat}(h:i<1000000):i64.wrap ((i:Int)+1)=((i+1:Nat):Int):=by grind [wr]
theorem wp1{i:Nat}(h:i+1<1000000):i64.wrap (((i+1:Nat):Int)-1)=(i:Int):=by grind [wr]
theorem cf{α:Type}{l:List α}{i:Nat}(h:i<l.length):aC l (i:Int)=some l[i]:=by
 unfold aC
 simp_all
theorem Hb{α:Type}{l:List α}{x:Int}(d:0<=x)(h:x<l.length):∃a:x.toNat<l.length,aC l x=some (l[x.toNat]'a):=by
 have a:x.toNat<l.length:=by omega
 refine ⟨a,?_⟩;unfold aC
 simp_all
theorem cX{i n:Nat}(h:i<n):decide ((i:Int)<(n:Int))=true:=by simp_all
theorem eU{n:Nat}:decide ((n:Int)<(n:Int))=false:=by simp
theorem Dt{α:Type}{l m:List α}(h:l.length+m.length<=1000000):bX l m=some (l++m):=by unfold bX;simp_all
theorem GP{α:Type}{m:List α}(h:m.length<=1000000):bX [] m=some m:=by grind [Dt]
theorem fN{X R:Type}(r:X->Option R)(b:(X->Option R)->Option R):jn r b=b r:=rfl
def bS{β:Type}(o:Option β)(Q:β->Prop):Prop:=∃r,o=some r/\Q r
abbrev gz(o:Option Bool)(P:Prop):Prop:=bS o λb=>b=true↔P
section
variable{α β γ σ:Type}{o:Option α}{P Q:α->Prop}
theorem bS.mono(h:bS o P)(i:∀r,P r->Q r):bS o Q:=by obtain ⟨r,j,s⟩:=h;exact ⟨r,j,i r s⟩
theorem bS.bind{f:α->Option β}{R:β->Prop}(h:bS o P)(i:∀r,P r->bS (f r) R):bS (o.bind f) R:=by obtain ⟨r,rfl,j⟩:=h;simp_all
theorem bm{r:α}:bS (some r) Q↔Q r:=by simp[bS]
theorem jT{f:α->Option β}{R:β->Prop}:bS (o.bind f) R↔bS o λr=>bS (f r) R:=by cases o <;> simp[bS]
theorem bz{c:Prop}[Decidable c]{a b:Option α}:bS (if c then a else b) Q↔(c->bS a Q)/\(¬c->bS b Q):=by grind
theorem bS.eq{r:α}(h:bS o λx=>x=r):o=some r:=by obtain ⟨_,h,rfl⟩:=h;exact h
end
section
variable{X R α:Type}{b:(X->Option R)->X->Option R}{Q:R->Prop}
theorem jC(n:Nat)(Inv:Nat->X->Prop)(hs:∀i x f,i<n->Inv i x->(∀d,Inv (i+1) d->bS (f d) Q)->bS (b f x) Q)
  (j:∀x f,Inv n x->bS (b f x) Q) {g:X} (l:Inv 0 g) {N:Nat} (m:n<N):bS (bD b N g) Q:=by
 have:∀k i x,i<=n->n<i+k->Inv i x->bS (bD b k x) Q:=by
  intro k;induction k with
  |zero=>omega
  |succ k ih=>
   intro i x h p hi;rcases YH h with a | rfl
   ·exact hs i x _ a hi λd e=>ih (i+1) d a (by omega) e
   ·exact j x _ hi
 grind
end
section
variable{R α:Type}{b:(Int->Option R)->Int->Option R}{Q:R->Prop}
theorem yE(l:List α)(A:Nat->α->Prop)
  (hs:∀i (f:Int->Option R) (h:i<l.length),(∀j (a:j<l.length),j<i->A j l[j])->(A i l[i]->bS (f ((i+1:Nat):Int)) Q)->bS (b f (i:Int)) Q)
  (k:∀f,(∀j (a:j<l.length),A j l[j])->bS (b f (l.length:Int)) Q) {N:Nat} (d:l.length<N):bS (bD b N 0) Q:=
 jC l.length (fun i x=>x=(i:Int)/\∀j (a:j<l.length),j<i->A j l[j])
  (fun i x f hi ⟨e,g⟩ m=>by
   grind)
  (fun x f ⟨e,g⟩=>by simp_all) ⟨rfl,fun j a h=>absurd h (by omega)⟩ d
end
theorem Er{α:Type}{l:List α}{A:α->Prop}(h:∀j (d:j<l.length),A l[j]):∀a∈l,A a:=λa e=>by grind [List.getElem_of_mem]
theorem Ra{α:Type}{b:(Int->Option Bool)->Int->Option Bool}(l:List α)(A:α->Prop)(P:Prop)(j:P->∀a∈l,A a)
  (hs:∀(i:Nat)(f:Int->Option Bool)(h:i<l.length)(Q:Bool->Prop),(A l[i]->bS (f ((i+1:Nat):Int)) Q)->(¬A l[i]->Q false)->bS (b f (i:Int)) Q)
  (d:∀f,(∀a∈l,A a)->gz (b f (l.length:Int)) P) {N:Nat} (e:l.length<N):gz (bD b N 0) P:=
 yE l (λ_ a => A a) (λi f h _ g => hs i f h _ g λk => by
   grind)
  (λf h=>d f (Er h)) e
structure nZ (s:bg):Prop where
 nodes:s.aj.length<=40
 parts:s.aH.length<=20
 iA:s.aq.length<=20
 part:∀p∈s.aH,p.length<=40
 queue:∀q∈s.aq,q.aU.length<=40
theorem few07(s:bg):bS (zeY 5000 s) λr=>r=true->nZ s:=by
 simp only[zeY,bz,bm];refine ⟨by simp,λh=>?_⟩;simp only[gG,bB,not_or,Int.not_lt] at h;obtain ⟨⟨g,j⟩,k⟩:=h;refine yE s.aH (λ_ q=>q.length<=40) (λi f h _ a=>?_) (λf d=>?_) (by omega)
 ·simp only[cX h,if_true,cf h,ay,bY (show i<1000000 by omega),bz,bm,bB]
  grind
 ·simp only[eU,b_,cA];refine yE s.aq (λ_ q=>q.aU.length<=40) (λi f h _ a=>?_) (λf e=>?_) (by omega)
  ·simp only[cX h,if_true,cf h,ay,bY (show i<1000000 by omega),bz,bm,bB]
   grind
  ·simp only[eU,b_,cA,bm];exact λ_=>⟨by omega,by omega,by omega,Er d,Er e⟩
theorem few17(l:List aJ):bS (ze6 5000 l) λr=>r=true->l.length<=30/\∀j∈l,j.aF.length<=10:=by
 simp only[ze6,bz,bm];refine ⟨by simp,λh=>?_⟩;simp only[bB] at h;refine yE l (λ_ q=>q.aF.length<=10) (λi f h _ d=>?_) (λf a=>?_) (by omega)
 ·simp only[cX h,if_true,cf h,ay,bY (show i<1000000 by omega),bz,bm,bB]
  grind
 ·simp only[eU,b_,cA,bm];exact λ_=>⟨by omega,Er a⟩
structure lI (s:bg) (st:bT):Prop where
 spec:nZ s
 bj:st.ah.length<=300
 after:∀j∈st.ah,j.aF.length<=10
 cr:st.ae.length<=300
 cy:st.az.length<=20
 use:st.jA.length<=20
 stamps:st.aB.aq.length<=20
 shares:∀a∈st.ae,a.ai.length<=40
theorem lI.sh{s:bg}{st:bT}(h:lI s st):∀a∈st.ae,a.ai.length<=300:=λa i=>kI (h.shares a i) (by decide)
theorem few23(s:bg)(st:bT):bS (zcf 5000 s st) λr=>r=true->lI s st:=by
 simp only[zcf,fN];refine (few07 s).bind λr d=>?_;simp only[if_true,bm,bz];refine ⟨by simp,λh=>?_⟩;refine (few17 st.ah).bind λk a=>?_;simp only[iF,oO] at h;have g:=d h;simp only[bz,bm];refine ⟨by simp,λh=>?_⟩;simp only[gG,bB,not_or,Int.not_lt,iF,oO] at h;obtain ⟨⟨⟨⟨h,l⟩,m⟩,n⟩,p⟩:=h;have e:=a h;refine yE st.ae (λ_ q=>q.ai.length<=40) (λi f h _ d=>?_) (λf j=>?_) (by omega)
 ·simp only[cX h,if_true,cf h,ay,bY (show i<1000000 by omega),bz,bm,bB]
  grind
 ·simp only[eU,b_,cA,bm];exact λ_=>⟨g,kI e.1 (by decide),e.2,by omega,by omega,by omega,by omega,Er j⟩
def Po(a hi x:Int):Bool:=decide (a<=x)&&decide (x<=hi)
structure aO (r:aE):Prop where
 G_:0<=r.bG/\r.bG<=1048576
 mem:0<=r.Mem/\r.Mem<=1048576
 KN:0<=r.bK/\r.bK<=1048576
 LX:0<=r.bM/\r.bM<=1048576
theorem BH(r:aE):gz (Zc 5000 r) (aO r):=by simp only[Zc,zb6,bm,ay,bz,bI,bB,b_,GN,gz];refine ⟨λa=>⟨λd=>⟨λe=>⟨λf=>⟨a,d,e,f⟩,λh=>h.LX⟩,λe h=>e h.KN⟩,λd h=>d h.mem⟩,λa h=>a h.G_⟩
theorem at4x0{a b c d:Int}:aC [a,b,c,d] 0=some a:=rfl
theorem at4x1{a b c d:Int}:aC [a,b,c,d] 1=some b:=rfl
theorem at4x2{a b c d:Int}:aC [a,b,c,d] 2=some c:=rfl
theorem at4x3{a b c d:Int}:aC [a,b,c,d] 3=some d:=rfl
theorem lpN(l:List Int)(d hi n:Int)(e:(l.length:Int)=n){E:Option Bool}{Q:Bool->Prop}(k:¬(∀a∈l,d<=a/\a<=hi)->Q false)(g:(∀a∈l,d<=a/\a<=hi)->bS E Q)(j:l.length<5000) :
  bS (bD (λ(f:Int->Option Bool) (x:Int)=>if (decide (x<n))=true then (aC l x).bind λy=>if ((decide (y<d)) || (decide (y > hi)))=true then some false else f (i64.wrap (x+1)) else E) 5000 0) Q:=by
 subst e;refine yE l (λ_ a=>d<=a/\a<=hi) (λi f h _ m=>?_) (λf h=>?_) j
 ·simp only[cX h,if_true,cf h,ay,bY (show i<1000000 by omega),bz,bm,gG,bB]
  grind
 ·simp only[eU,b_,cA];exact g (Er h)
theorem AB{a b c d e hi:Int}:(∀x∈[a,b,c,d],e<=x/\x<=hi)↔(e<=a/\a<=hi)/\(e<=b/\b<=hi)/\(e<=c/\c<=hi)/\(e<=d/\d<=hi):=by simp
theorem HX{a b c d hi:Int}:(∀x∈[a,b,c],d<=x/\x<=hi)↔(d<=a/\a<=hi)/\(d<=b/\b<=hi)/\(d<=c/\c<=hi):=by simp
theorem Vj(r:aE):gz (Ng 5000 r) (aO r):=by
 simp only[Ng,gp,ay];refine lpN [r.bG,r.Mem,r.bK,r.bM] 0 1048576 4 rfl (λh=>?_) (λh=>?_) (by simp)
 ·simp only[b_,GN];exact λv=>h (AB.2 ⟨v.G_,v.mem,v.KN,v.LX⟩)
 ·rw[bm];obtain ⟨a,d,e,f⟩:=AB.1 h;exact ⟨λ_=>⟨a,d,e,f⟩,λ_=>rfl⟩
def bU:aE:={ bG:=0,Mem:=0,bK:=0,bM:=0 }
theorem gH{a b:aE}:aE.beq a b=true↔a=b:=by obtain ⟨d,e,f,g⟩:=a;obtain ⟨h,i,j,k⟩:=b;simp[aE.beq]
def LY(l:List Int):Nat->Int
 |0=>-1
 |i+1=>l[i]?.getD 0
theorem qT{l:List Int}{i:Nat}(h:i<l.length):LY l (i+1)=l[i]:=by simp[LY,h]
def nI(l:List Int)(n:Int):Prop:=∀i (h:i<l.length),LY l i<l[i]/\l[i]<n
theorem nI.nn{l:List Int}{n:Int}(h:∀i (hi:i<l.length),LY l i<l[i]):∀i (hi:i<l.length),0<=l[i]:=by
 intro i;induction i with
 |zero=>grind [LY]
 |succ i ih=>grind [qT]
theorem nI.mem{l:List Int}{n:Int}(h:nI l n):∀x∈l,0<=x/\x<n:=λx j=>by obtain ⟨i,hi,rfl⟩:=jc j;exact ⟨nI.nn (n:=n) (λi hi=>(h i hi).1) i hi,(h i hi).2⟩
theorem ascending(l:List Int)(n:Int)(hl:l.length<99):gz (zeT 5000 l n) (nI l n):=by
 simp only[zeT];refine jC l.length (λi x=>x=(LY l i,(i:Int))/\∀j (d:j<l.length),j<i->LY l j<l[j]/\l[j]<n) (λi x f hi a g=>?_) (λx f a=>?_) ⟨rfl,λj d h=>by omega⟩ (by omega)
 ·obtain ⟨rfl,e⟩:=a;simp only[cX hi,if_true,cf hi,ay,bY (show i<1000000 by omega),bz,bm,gG,bB];refine ⟨λh=>?_,λh=>g _ ⟨by rw[qT hi],λj d k=>?_⟩⟩
  ·simp only[b_,GN];intro m;have:=m i hi;omega
  grind
 ·obtain ⟨rfl,e⟩:=a;simp only[eU,b_,cA,bm,Qe];exact λi hi=>e i hi hi
theorem GA(l:List Int)(n:Int)(hl:l.length<99):gz (zcv 5000 l n) (nI l n):=by
 simp only[zcv,fN];refine yE l (λi a=>LY l i<a/\a<n) (λi f h r e=>?_) (λf h=>?_) (by omega)
 ·have g:decide ((i:Int) > 0)=decide (0<i):=by simp
  simp only[cX h,if_true,cf h,ay,bY (show i<1000000 by omega),bz,bm,bB,g,b_,cA];have bad:¬(LY l i<l[i]/\l[i]<n)->(False↔nI l n):=λj=>by simp only[GN];exact λd=>j (d i h)
  refine ⟨λk=>?_,λk=>⟨λp=>bad (by omega),λp=>⟨λq=>?_,λq=>?_⟩⟩⟩
  ·simp only[GN];intro d;have:=(d.mem _ (bH h)).1;omega
  ·obtain ⟨m,rfl⟩:∃m,i=m+1:=⟨i-1,by omega⟩;rw[wp1 (show m+1<1000000 by omega),cf (show m<l.length by omega)];rw[qT (by omega)] at bad e;simp only[ay,bz,bB,bm,b_]
   simp_all
  grind [LY]
 ·simp only[eU,b_,cA,bm,Qe];exact h
structure oH (s:bg):Prop where
 lo:1<=s.aj.length
 hi:s.aj.length<=16
 ok:∀r∈s.aj,aO r
theorem Rh(s:bg):gz (fK 5000 s) (oH s):=by
 simp only[fK,bz,bm];refine ⟨λh=>?_,λh=>?_⟩
 ·simp only[gG,bB] at h;simp only[b_,GN]
  grind [oH.lo,oH.hi]
 ·simp only[gG,bB,not_or] at h;refine Ra s.aj aO _ (λk=>k.ok) (λi f a Q e g=>?_) (λf d=>?_) (by omega)
  ·simp only[cX a,if_true,cf a,ay,bY (show i<1000000 by omega)];refine (Vj _).bind λr j=>?_;simp only[bz,bm,iF,oO]
   grind
  ·simp only[eU,b_,cA,bm,Qe];exact ⟨by omega,by omega,d⟩
theorem VU(s:bg)(hs:nZ s):gz (zcO 5000 s) (oH s):=by
 have:=hs.nodes;simp only[zcO];refine Ra s.aj aO _ (λk=>k.ok) (λi f a Q e g=>?_) (λf d=>?_) (by omega)
 ·simp only[cX a,if_true,cf a,ay,bY (show i<1000000 by omega)];refine (BH _).bind λr j=>?_;simp only[bz,bm,iF,oO]
  grind
 ·simp only[eU,b_,cA,BO,ay,bm,bI,bB];exact ⟨λh=>⟨by omega,by omega,d⟩,λh=>by grind [oH.lo,oH.hi]⟩
structure oZ (s:bg):Prop where
 lo:1<=s.aH.length
 hi:s.aH.length<=8
 ok:∀p∈s.aH,1<=p.length/\nI p s.aj.length
theorem QM(s:bg)(hs:nZ s):gz (fJ 5000 s) (oZ s):=by
 simp only[fJ,fN,bz,bm];refine ⟨λh=>?_,λh=>?_⟩
 ·simp only[gG,bB] at h;simp only[b_,GN]
  grind [oZ.lo,oZ.hi]
 ·simp only[gG,bB,not_or] at h;refine Ra s.aH (λp=>1<=p.length/\nI p s.aj.length) _ (λk=>k.ok) (λi f a Q j d=>?_) (λf g=>?_) (by omega)
  ·have:=hs.part _ (bH a);simp only[cX a,if_true,cf a,ay,bY (show i<1000000 by omega),bz,bm,bB];refine ⟨λe=>d (by omega),λe=>?_⟩;refine (ascending _ _ (by omega)).bind λr l=>?_;simp only[bz,bm,iF,oO]
   grind
  ·simp only[eU,b_,cA,bm,Qe];exact ⟨by omega,by omega,g⟩
theorem VJ(s:bg)(hs:nZ s):gz (zcR 5000 s) (oZ s):=by
 have:=hs.parts;simp only[zcR,fN];refine Ra s.aH (λp=>1<=p.length/\nI p s.aj.length) _ (λk=>k.ok) (λi f a Q j d=>?_) (λf g=>?_) (by omega)
 ·have:=hs.part _ (bH a);simp only[cX a,if_true,cf a,ay,bY (show i<1000000 by omega),bz,bm,bB];refine ⟨λe=>d (by omega),λe=>?_⟩;refine (GA _ _ (by omega)).bind λr l=>?_;simp only[bz,bm,iF,oO]
  grind
 ·simp only[eU,b_,cA,BO,ay,bm,bI,bB];exact ⟨λh=>⟨by omega,by omega,g⟩,λh=>by grind [oZ.lo,oZ.hi]⟩
structure BL (s:bg) (q:Bh):Prop where
 part:0<=q.Part/\q.Part<s.aH.length
 BA:nI q.aU s.aU
 bj:1<=q.jy/\q.jy<=256
 run:1<=q.kQ/\q.kQ<=256
 user:1<=q.fA/\q.fA<=256
 qos:0<=q.fH/\q.fH<=100
structure rA (s:bg):Prop where
 lo:1<=s.aq.length
 hi:s.aq.length<=8
 ok:∀q∈s.aq,BL s q
theorem Ms(s:bg)(hs:nZ s):gz (ze4 5000 s) (rA s):=by
 simp only[ze4,fN,bz,bm];refine ⟨λh=>?_,λh=>?_⟩
 ·simp only[gG,bB] at h;simp only[b_,GN]
  grind [rA.lo,rA.hi]
 ·simp only[gG,bB,not_or] at h;refine Ra s.aq (BL s) _ (λk=>k.ok) (λi f a Q l d=>?_) (λf m=>?_) (by omega)
  ·have:=hs.queue _ (bH a);simp only[cX a,if_true,cf a,ay,bY (show i<1000000 by omega),b_,cA];rw[bz];refine ⟨λe=>?_,λe=>?_⟩
   ·simp only[gG,bB] at e;rw[bm];exact d λk=>by have:=k.part;omega
   ·simp only[gG,bB,not_or] at e;refine (ascending _ _ (by omega)).bind λr n=>?_;rw[bz];refine ⟨λg=>?_,λg=>?_⟩
    ·grind [bm,BL.BA]
    ·simp only[iF,oO] at g;refine lpN [_,_,_] 1 256 3 rfl (λp=>d λk=>p (HX.2 ⟨k.bj,k.run,k.user⟩)) (λq=>?_) (by simp);obtain ⟨t,u,v⟩:=HX.1 q;rw[bz];refine ⟨λj=>?_,λj=>?_⟩
     ·simp only[gG,bB] at j;rw[bm];exact d λk=>by have:=k.qos;omega
     ·simp only[gG,bB,not_or] at j;exact l ⟨by omega,n.1 g,t,u,v,by omega⟩
  ·simp only[eU,b_,cA,bm,Qe];exact ⟨by omega,by omega,m⟩
theorem QV(s:bg)(hs:nZ s):gz (zcy 5000 s) (rA s):=by
 have:=hs.iA;simp only[zcy,fN];refine Ra s.aq (BL s) _ (λk=>k.ok) (λi f d Q j a=>?_) (λf l=>?_) (by omega)
 ·have:=hs.queue _ (bH d);simp only[cX d,if_true,cf d,ay,bY (show i<1000000 by omega),b_,cA];rw[bz];refine ⟨λe=>?_,λe=>?_⟩
  ·simp only[gG,bB] at e;rw[bm];exact a λk=>by have:=k.part;omega
  ·simp only[gG,bB,not_or] at e;refine (GA _ _ (by omega)).bind λr m=>?_;simp only[BO,ay,bz,bm,iF,oO,bI,bB,yB5,yBi];refine ⟨λg=>a λk=>by grind [BL.BA],λg=>⟨λn=>a λk=>by have:=k.bj;omega,λn=>⟨λp=>a λk=>by have:=k.run;omega,λp=>⟨λq=>a λk=>by have:=k.user;omega,λq=>⟨λt=>a λk=>by have:=k.qos;omega,λt=>?_⟩⟩⟩⟩⟩;exact j ⟨by omega,m.1 g,by omega,by omega,by omega,by omega⟩
 ·simp only[eU,b_,cA,BO,ay,bm,bI,bB];exact ⟨λh=>⟨by omega,by omega,l⟩,λh=>by have:=h.lo;have:=h.hi;omega⟩
structure CG (w:LR):Prop where
 age:0<=w.lj/\w.lj<=1000
 size:0<=w.cW/\w.cW<=1000
 qos:0<=w.fH/\w.fH<=1000
 share:0<=w.bQ/\w.bQ<=1000
theorem KH(w:LR):gz (zeC 5000 w) (CG w):=by
 simp only[zeC];refine lpN [w.lj,w.cW,w.fH,w.bQ] 0 1000 4 rfl (λh=>?_) (λh=>?_) (by simp)
 ·simp only[b_,GN];exact λv=>h (AB.2 ⟨v.age,v.size,v.qos,v.share⟩)
 ·rw[bm];obtain ⟨a,d,e,f⟩:=AB.1 h;exact ⟨λ_=>⟨a,d,e,f⟩,λ_=>rfl⟩
structure bq (s:bg):Prop where
 nodes:oH s
 parts:oZ s
 BA:1<=s.aU/\s.aU<=8
 iA:rA s
 weights:CG s.am
 decay:1<=s.bW/\s.bW<=16
 mode:s.Mode=1\/s.Mode=2
 bj:1<=s.ah/\s.ah<=256
 ids:1<=s.kf/\s.kf<=1048576
 uV:1<=s.aI/\s.aI<=65536
 YS:0<=s.bp/\s.bp<=65536
 keep:1<=s.dk/\s.dk<=16
 Po:1<=s.In/\s.In<=8
 out:1<=s.Out/\s.Out<=16
 cache:0<=s.bV/\s.bV<=16
theorem rZ(s:bg)(hs:nZ s):gz (PG 5000 s) (bq s):=by
 simp only[PG,Cx];obtain ⟨N,z,m⟩:=Rh s;obtain ⟨O,A,n⟩:=QM s hs;obtain ⟨S,E,q⟩:=Ms s hs;obtain ⟨U,F,r⟩:=KH s.am;simp only[z,A,E,F,ay];have T:∀(x:ByteArray),x.toList≠[]->(¬bq s)->bS ((some x).bind λa=>some (a.toList == (⟨#[]⟩:ByteArray).toList)) λb=>b=true↔bq s:=λx G W=>by
  rw[ay,bm]
  simp_all
 have step:∀(c:Bool)(x:ByteArray)(o:Option ByteArray),x.toList.isEmpty=false->(c=false->¬bq s)->(c=true->bS (o.bind λa=>some (a.toList == (⟨#[]⟩:ByteArray).toList)) λb=>b=true↔bq s) ->
   bS ((if (!c)=true then some x else o).bind λa=>some (a.toList == (⟨#[]⟩:ByteArray).toList)) λb=>b=true↔bq s:=λc x o G m n=>by
  grind
 have nb:∀{b:Bool}{p:Prop},(b=true↔p)->b=false->¬p:=λh e Y=>by simp_all
 refine step _ _ _ (by kernel_rfl) (λe k=>nb m e k.nodes) λc1=>?_;refine step _ _ _ (by kernel_rfl) (λe k=>nb n e k.parts) λK=>?_;refine step _ _ _ (by kernel_rfl) (λe k=>by grind [bq.BA]) λt=>?_;refine step _ _ _ (by kernel_rfl) (λe k=>nb q e k.iA) λL=>?_;refine step _ _ _ (by kernel_rfl) (λe k=>nb r e k.weights) λM=>?_;refine step _ _ _ (by kernel_rfl) (λe k=>by grind [bq.decay]) λu=>?_;refine step _ _ _ (by kernel_rfl) (λe k=>by grind [bq.mode]) λv=>?_;refine step _ _ _ (by kernel_rfl) (λe k=>by grind [bq.bj]) λw=>?_;refine step _ _ _ (by kernel_rfl) (λe k=>by grind [bq.ids]) λy=>?_;refine step _ _ _ (by kernel_rfl) (λe k=>by grind [bq.uV]) λd=>?_;refine step _ _ _ (by kernel_rfl) (λe k=>by grind [bq.YS]) λf=>?_;refine step _ _ _ (by kernel_rfl) (λe k=>by grind [bq.keep]) λg=>?_;refine step _ _ _ (by kernel_rfl) (λe k=>by grind [bq.Po]) λi=>?_;refine step _ _ _ (by kernel_rfl) (λe k=>by grind [bq.out]) λj=>?_;refine step _ _ _ (by kernel_rfl) (λe k=>by grind [bq.cache]) λl=>?_;rw[ay,bm];simp only[yCs,Qe];simp only[bI,gG,bB,nD] at t u v w y d f g i j l;exact ⟨m.1 c1,n.1 K,t,q.1 L,r.1 M,u,v,w,y,d,f,g,i,j,l⟩
theorem Nd{n:Nat}(hN:15<n){s:bg}{g j m:Bool}(T:zcO n s=some g)(F:g=true↔oH s)(U:zcR n s=some j)(G:j=true↔oZ s)(W:zcy n s=some m)(K:m=true↔rA s):gz (zcS n s) (bq s):=by
 simp only[zcS,ib,T,U,W,ay,BO,fN];have d:∀w:Bool,(w=true↔CG s.am)->∀(L:List Bool)(M:List ByteArray),L=[g,j,decide (1<=s.aU)&&decide (s.aU<=8),m,w,decide (1<=s.bW)&&decide (s.bW<=16),decide (1<=s.Mode)&&decide (s.Mode<=2),decide (1<=s.ah)&&decide (s.ah<=256),decide (1<=s.kf)&&decide (s.kf<=1048576),decide (1<=s.aI)&&decide (s.aI<=65536),decide (0<=s.bp)&&decide (s.bp<=65536),decide (1<=s.dk)&&decide (s.dk<=16),decide (1<=s.In)&&decide (s.In<=8),decide (1<=s.Out)&&decide (s.Out<=16),decide (0<=s.bV)&&decide (s.bV<=16)] ->
   (∀x∈M,x.toList≠[])->M.length=15 ->
   bS ((bD (λ(p:Int->Option ByteArray) (e:Int)=>if (decide (e<15))=true then (aC L e).bind λq=>if (!q)=true then (aC M e).bind λr=>some r else p (i64.wrap (e+1)) else some (⟨#[]⟩:ByteArray)) n 0).bind λY=>some (Y.toList == (⟨#[]⟩:ByteArray).toList)) λb=>b=true↔bq s:=by
  intro w N L M Z hM O;have S:L.length=15:=by simp_all
  have t:(15:Int)=(L.length:Int):=by omega
  have all:(∀x∈L,x=true)↔bq s:=by
   rw[Z];simp only[gE,Mm,Oi,forall_eq_or_imp,forall_eq,bI,bB];constructor
   ·rintro ⟨c1,c2,c3,c4,c5,c6,c7,c8,c9,u,v,y,z,A,E⟩;exact ⟨F.1 c1,G.1 c2,c3,K.1 c4,N.1 c5,c6,by omega,c8,c9,u,v,y,z,A,E⟩
   ·intro k;have:=k.mode;exact ⟨F.2 k.nodes,G.2 k.parts,k.BA,K.2 k.iA,N.2 k.weights,k.decay,by omega,k.bj,k.ids,k.uV,k.YS,k.keep,k.Po,k.out,k.cache⟩
  rw[jT,t];have nil:(⟨#[]⟩:ByteArray).toList=[]:=by kernel_rfl
  refine yE L (λ_ x=>x=true) (λi f h _ hr=>?_) (λf hA=>?_) (by omega)
  ·simp only[cX h,if_true,cf h,cf (l:=M) (show i<M.length by omega),ay,bY (show i<1000000 by omega),bz,bm,iF,oO,nil,nD] at hr ⊢
   grind [List.getElem_mem]
  ·simp only[eU,b_,cA,bm,yCs,Qe];exact all.1 (Er hA)
 have a:∀x∈([(⟨#[78,111,100,101,115]⟩:ByteArray),(⟨#[80,97,114,116,115]⟩:ByteArray),(⟨#[85,115,101,114,115]⟩:ByteArray),(⟨#[81,117,101,117,101,115]⟩:ByteArray),(⟨#[87,101,105,103,104,116,115]⟩:ByteArray),(⟨#[68,101,99,97,121]⟩:ByteArray),(⟨#[77,111,100,101]⟩:ByteArray),(⟨#[74,111,98,115]⟩:ByteArray),(⟨#[73,100,115]⟩:ByteArray),(⟨#[86,101,114,115,105,111,110,115]⟩:ByteArray),(⟨#[76,105,110,103,101,114]⟩:ByteArray),(⟨#[75,101,101,112]⟩:ByteArray),(⟨#[73,110]⟩:ByteArray),(⟨#[79,117,116]⟩:ByteArray),(⟨#[67,97,99,104,101]⟩:ByteArray)]:List ByteArray),x.toList≠[]:=by simp_all
 split
 ·rename_i w1;split
  ·rename_i w2;split
   ·rename_i w3;refine d _ ?_ _ _ rfl a rfl;simp only[bI,bB] at w1 w2 w3 ⊢;exact ⟨λw4=>⟨w1,w2,w3,w4⟩,λk=>k.share⟩
   ·rename_i w3;refine d _ ?_ _ _ rfl a rfl;simp only[bI,bB] at w3;simp only[b_,GN];exact λk=>w3 k.qos
  ·rename_i w2;refine d _ ?_ _ _ rfl a rfl;simp only[bI,bB] at w2;simp only[b_,GN];exact λk=>w2 k.size
 ·rename_i w1;refine d _ ?_ _ _ rfl a rfl;simp only[bI,bB] at w1;simp only[b_,GN];exact λk=>w1 k.age
theorem VW(s:bg)(hs:nZ s):gz (zcS 5000 s) (bq s):=by
 obtain ⟨a,d,e⟩:=VU s hs;obtain ⟨f,g,h⟩:=VJ s hs;obtain ⟨i,j,k⟩:=QV s hs
 grind [Nd]
structure CE (L:List (Int×Int)) (k:Int):Prop where
 lo:0<=k
 hi:k<=64
 fit:∀p∈L,k * p.2<=p.1
 max:k<64->∃p∈L,p.1<(k+1) * p.2
theorem CE.CB{L:List (Int×Int)}{k i:Int}(s:∀p∈L,0<=p.2)(h:CE L k)(A:CE L i):k=i:=by
 have u:∀{a b:Int},CE L a->CE L b->¬a<b:=λ{a b} x hb z=>by obtain ⟨p,j,E⟩:=x.max (by have:=hb.hi;omega);have F:=hb.fit p j;have G:(a+1) * p.2<=b * p.2:=yAW (by omega) (s p j);omega
 grind
theorem CE.nil:CE [] 64:=⟨by omega,by omega,by simp,by simp⟩
def qm(n a b:Int):Int:=if b > 0 then (if a.tdiv b<n then a.tdiv b else n) else n
theorem CE.step{L:List (Int×Int)}{k a b:Int}(h:CE L k)(z:∀p∈L,0<=p.2)(s:0<=a)(hb:0<=b):CE (L++[(a,b)]) (qm k a b):=by
 unfold qm;have u:=h.lo;have x:=h.hi;split
 ·rename_i j;rw[Int.tdiv_eq_ediv_of_nonneg s];have K:a / b * b<=a:=Int.ediv_mul_le a (by omega);have A:a<(a / b+1) * b:=Int.lt_ediv_add_one_mul_self a j;have E:0<=a / b:=Int.ediv_nonneg s (by omega);split
  ·rename_i F;refine ⟨E,by omega,λp i=>?_,λ_=>⟨(a,b),by simp,A⟩⟩;rcases kB.1 i with i | i
   ·have:=h.fit p i;have:a / b * p.2<=k * p.2:=yAW (by omega) (z p i);omega
   simp_all
  ·rename_i G;refine ⟨u,x,λp i=>?_,λhk=>?_⟩
   ·rcases kB.1 i with i | i
    ·exact h.fit p i
    ·simp only[zq] at i;subst i;have:k * b<=a / b * b:=yAW (by omega) (by omega)
     grind
   ·obtain ⟨p,i,q⟩:=h.max hk
    grind
 ·rename_i j;have:b=0:=by omega
  subst this;refine ⟨u,x,λp i=>?_,λhk=>?_⟩
  ·rcases kB.1 i with i | i
   ·exact h.fit p i
   simp_all
  ·obtain ⟨p,i,q⟩:=h.max hk
   grind
theorem PY{n a b:Int}(h:b > 0):qm n a b=if a.tdiv b<n then a.tdiv b else n:=by unfold qm;omega
theorem QH{n a b:Int}(h:¬b > 0):qm n a b=n:=by unfold qm;omega
def GF(a b:aE):List (Int×Int):=[(a.bG,b.bG),(a.Mem,b.Mem),(a.bK,b.bK),(a.bM,b.bM)]
def dM(a b:aE):Int:=qm (qm (qm (qm 64 a.bG b.bG) a.Mem b.Mem) a.bK b.bK) a.bM b.bM
theorem wU{a b:aE}(d:aO a)(hb:aO b):CE (GF a b) (dM a b):=by have e:=CE.nil;have f:=e.step (by simp) d.G_.1 hb.G_.1;have g:=f.step (by simp;exact hb.G_.1) d.mem.1 hb.mem.1;have h:=g.step (by simp;exact ⟨hb.G_.1,hb.mem.1⟩) d.KN.1 hb.KN.1;have i:=h.step (by simp;exact ⟨hb.G_.1,hb.mem.1,hb.KN.1⟩) d.LX.1 hb.LX.1;exact i
theorem w1:i64.wrap (0+1)=1:=rfl
theorem w2:i64.wrap (1+1)=2:=rfl
theorem w3:i64.wrap (2+1)=3:=rfl
theorem w4:i64.wrap (3+1)=4:=rfl
theorem wq{a b:Int}(d:0<=a/\a<=1048576)(hb:0<b):Ov .i64 a b=some (a.tdiv b):=by
 unfold Ov;rw[if_neg (by omega)];have e:0<=a / b:=Int.ediv_nonneg d.1 (by omega);have f:a / b<=a:=Int.ediv_le_self b d.1
 grind [wr]
def stc(a b:aE):Nat->Int
 |0=>64
 |1=>qm 64 a.bG b.bG
 |2=>qm (qm 64 a.bG b.bG) a.Mem b.Mem
 |3=>qm (qm (qm 64 a.bG b.bG) a.Mem b.Mem) a.bK b.bK
 |_=>dM a b
theorem count{a b:aE}(g:aO a)(hb:aO b)(p:b≠bU):mn 5000 a b=some (dM a b):=by
 obtain ⟨q,h,j⟩:=Vj a;obtain ⟨r,k,l⟩:=Vj b;have m:=j.2 g;have n:=l.2 hb;subst m n;have d:aE.beq b bU=false:=by grind [gH]
 simp only[mn,fN,h,k,ay,Pu,b_,cA,Bool.false_or,gp];change (if aE.beq b bU=true then some 0 else _)=_;rw[d];simp only[b_,cA];refine bS.eq (jC 4 (λi x=>x=(stc a b i,(i:Int))) (λi x f hi e s=>?_) (λx f e=>?_) rfl (by omega))
 ·subst e;rcases (show i=0\/i=1\/i=2\/i=3 by omega) with rfl | rfl | rfl | rfl
  ·rw[show ((0:Nat):Int)=0 from rfl];simp only[show decide ((0:Int)<4)=true from rfl,if_true,at4x0,ay,w1,bz,bB]
   grind [stc,qm,wq,aO.G_]
  ·rw[show ((1:Nat):Int)=1 from rfl];simp only[show decide ((1:Int)<4)=true from rfl,if_true,at4x1,ay,w2,bz,bB]
   grind [stc,QH,wq,aO.mem,PY]
  ·rw[show ((2:Nat):Int)=2 from rfl];simp only[show decide ((2:Int)<4)=true from rfl,if_true,at4x2,ay,w3,bz,bB]
   grind [stc,QH,wq,aO.KN,PY]
  ·rw[show ((3:Nat):Int)=3 from rfl];simp only[show decide ((3:Int)<4)=true from rfl,if_true,at4x3,ay,w4,bz,bB]
   grind [stc,dM,QH,wq,aO.LX,PY]
 ·subst e;simp only[show decide (((4:Nat):Int)<4)=false from rfl,b_,cA,bm];rfl
theorem Ib{b:aE}(hb:aO b):Pn 5000 b bU=some (decide (b=bU)):=by
 simp only[Pn,au];have:=hb.G_;have:=hb.mem;have:=hb.KN;have:=hb.LX;rw[Bool.eq_iff_iff];simp only[bI,bB];obtain ⟨a,d,e,f⟩:=b
 grind [bU]
theorem CK{a b:aE}(g:aO a)(hb:aO b)(w:b≠bU):zbz 5000 a b=some (dM a b):=by
 obtain ⟨T,z,t⟩:=BH a;obtain ⟨U,A,u⟩:=BH b;have E:=t.2 g;have F:=u.2 hb;subst E F;simp only[zbz,fN,z,A,ay,Pu,b_,cA];have G:Pn 5000 b ({ bG:=0,Mem:=0,bK:=0,bM:=0 }:aE)=some (decide (b=bU)):=Ib hb;rw[G];simp only[ay,w,decide_false,b_,cA];have W:=g.G_;have Y:=g.mem;have Z:=g.KN;have hl:=g.LX;have l:=hb.G_;have m:=hb.mem;have n:=hb.KN;have q:=hb.LX;have K:∀p∈GF a b,0<=p.2:=by
  intro p e;simp only[GF,gE,Mm,Oi] at e;rcases e with rfl | rfl | rfl | rfl
  ·omega
  ·omega
  ·omega
  omega
 have done:∀k:Int,CE (GF a b) k->k=dM a b:=λk hk=>hk.CB K (wU g hb);have d:∀{i:Nat}{y:Int},i<=65->0<=y/\y<=1048576->0<=(i:Int) * y/\(i:Int) * y<=68157440:=λ{i y} hi v=>by have t:0<=(i:Int) * y:=yCc (by omega) v.1;have u:(i:Int) * y<=65 * y:=yAW (by omega) v.1;omega
 refine bS.eq (jC 64 (λi x=>x=((i:Int),((i+1:Nat):Int) * b.bG,((i+1:Nat):Int) * b.Mem,((i+1:Nat):Int) * b.bK,((i+1:Nat):Int) * b.bM)/\∀p∈GF a b,(i:Int) * p.2<=p.1) (λi x f hi r L=>?_) (λx f r=>?_) ⟨by simp,λp e=>?_⟩ (by omega))
 ·obtain ⟨rfl,s⟩:=r;have m1:=d (i:=i+1) (by omega) l;have m2:=d (i:=i+1) (by omega) m;have m3:=d (i:=i+1) (by omega) n;have m4:=d (i:=i+1) (by omega) q;have j:∀y:Int,((i+1:Nat):Int) * y+y=((i+1+1:Nat):Int) * y:=λy=>by
   grind
  simp only[show decide ((i:Int)<64)=true by grind,if_true,Pn,ay,WG,bz,bm,bI,bB,bY (show i<1000000 by omega)];rw[wr (by omega) (by omega),wr (by omega) (by omega),wr (by omega) (by omega),wr (by omega) (by omega),j,j,j,j];refine ⟨λh=>L _ ⟨rfl,λp e=>?_⟩,λh=>done _ ⟨by omega,by omega,s,λ_=>?_⟩⟩
  ·simp only[GF,gE,Mm,Oi] at e;rcases e with rfl | rfl | rfl | rfl
   ·simp_all
   ·simp_all
   ·simp_all
   simp_all
  ·rw[show ((i:Int)+1)=((i+1:Nat):Int) by omega];by_cases M:a.bG<((i+1:Nat):Int) * b.bG
   ·exact ⟨(a.bG,b.bG),by simp[GF],M⟩
   by_cases N:a.Mem<((i+1:Nat):Int) * b.Mem
   ·exact ⟨(a.Mem,b.Mem),by simp[GF],N⟩
   by_cases O:a.bK<((i+1:Nat):Int) * b.bK
   ·exact ⟨(a.bK,b.bK),by simp[GF],O⟩
   by_cases S:a.bM<((i+1:Nat):Int) * b.bM
   ·exact ⟨(a.bM,b.bM),by simp[GF],S⟩
   omega
 ·obtain ⟨rfl,s⟩:=r;simp only[show decide (((64:Nat):Int)<64)=false from rfl,b_,cA,bm];exact done _ ⟨by omega,by omega,s,λh=>by omega⟩
 ·simp only[GF,gE,Mm,Oi] at e
  grind
def De(s:bg)(l:List Int)(need:aE):Int:=(l.map λn=>dM ((s.aj[n.toNat]?).getD bU) need).sum
theorem QS{a b:aE}(d:aO a)(hb:aO b):0<=dM a b/\dM a b<=64:=⟨(wU d hb).lo,(wU d hb).hi⟩
theorem H_{s:bg}{need:aE}(k:bq s)(n:aO need)(E:need≠bU){l:List Int}(hl:l.length<=300)(p:nI l s.aj.length)(C:aE->Option Int)(r:∀a,aO a->C a=some (dM a need)) :
  bD (λ(t:Int×Int->Option Int) (g:Int×Int)=>if (decide (g.2<(l.length:Int)))=true then (aC l g.2).bind λu=>(aC s.aj u).bind λv=>(C v).bind λw=>t ((i64.wrap (g.1+w)),(i64.wrap (g.2+1))) else some g.1) 5000 (0,0)=some (De s l need):=by
 have z:∀(m:List Int),(∀x∈m,x∈l)->0<=De s m need/\De s m need<=64 * m.length:=by
  intro m;induction m with
  |nil=>grind [De]
  |cons x m ih=>
   intro h;have F:=ih λy A=>h y (pp _ A);have q:=p.mem x (h x (sV ..));have d:x.toNat<s.aj.length:=by omega
   have:=QS (k.nodes.ok (s.aj[x.toNat]) (bH d)) n
   grind [De]
 refine bS.eq (jC l.length (λi x=>x=(De s (l.take i) need,(i:Int))) (λi x f hi d j=>?_) (λx f d=>?_) (by grind) (by omega))
 ·subst d;have q:=p.mem l[i] (bH hi);obtain ⟨d,e⟩:=Hb q.1 q.2;have c:=QS (k.nodes.ok (s.aj[l[i].toNat]) (bH d)) n;have b:=z (l.take i) λx d=>Px d;have G:((l.take i).length:Int)<=300:=by grind
  simp only[cX hi,if_true,cf hi,ay,e,r _ (k.nodes.ok _ (bH d)),bY (show i<1000000 by omega)];rw[wr (by omega) (by omega)];refine j _ ?_;congr 1;rw[GK hi];simp only[De,yBC,sy,List.map_nil,List.sum_append,yCn,List.sum_nil,eO d,SE];omega
 ·subst d;simp only[eU,b_,cA,bm,zp]
theorem Ta{s:bg}(hs:nZ s)(k:bq s){q m:Int}{need:aE}(d:aO need)(f:need≠bU):∃b,jg 5000 s q m need=some b/\zdi 5000 s q m need=some b:=by
 obtain ⟨v,h,r⟩:=rZ s hs;have t:=r.2 k;subst t;by_cases j:0<=q/\q<s.aq.length/\1<=m
 ·obtain ⟨u,e⟩:=Hb j.1 j.2.1;have g:=k.iA.ok _ (bH u);obtain ⟨l,n⟩:=Hb g.part.1 g.part.2;have p:=k.parts.ok _ (bH l);have lp:=hs.part _ (bH l);refine ⟨decide (De s (s.aH[s.aq[q.toNat].Part.toNat]) need≥m),?_,?_⟩
  ·simp only[jg,h,ay];rw[if_neg (by simp_all),e,ay];simp only[Cf,h,ay];rw[if_neg (by have:=g.part;simp;omega),n,ay];have:=H_ k d f (kI lp (by decide)) p.2 (λa=>mn 5000 a need) (λa i=>count i d f);rw[this,ay]
  ·simp only[zdi];rw[if_pos (by simp_all),e,ay];simp only[iw];rw[if_neg (by have:=g.part;simp_all)];simp only[n,ay];have:=H_ k d f (kI lp (by decide)) p.2 (λa=>zbz 5000 a need) (λa i=>CK i d f);rw[this,ay]
 ·refine ⟨false,?_,?_⟩
  ·simp only[jg,h,ay]
   grind
  ·simp only[zdi]
   grind
structure AI (j:aJ):Prop where
 st:1<=j.State/\j.State<=6
 start:j.Start≠0->3<=j.State
 fin:j.End≠0->5<=j.State
 ok:j.Ok=true->j.State=4\/j.State=5
 kill:j.cQ=true->j.State=4\/j.State=6
structure gj (j:aJ):Prop where
 id:1<=j.Id/\j.Id<=1048576
 user:0<=j.cw/\j.cw<=7
 queue:0<=j.Queue/\j.Queue<=7
 many:1<=j.aK/\j.aK<=64
 need:aO j.aw
 o_:j.aw≠bU
 wall:1<=j.aQ/\j.aQ<=65536
 mF:j.aF.length<=4
 after:∀d∈j.aF,1<=d.aW/\d.aW<=j.Id-1
 version:1<=j.aL/\j.aL<=281474976710656
 born:0<=j.cT/\j.cT<=1099511627776
 start:0<=j.Start/\j.Start<=1099511627776
 fin:0<=j.End/\j.End<=1099511627776
 arr:0<=j.Array/\j.Array<=j.Id
 state:AI j
theorem name_ok(x:Int):bS (wO 5000 x) λr=>r.toList=[]↔¬(1<=x/\x<=6):=by
 simp only[wO,bz,bm,nD];have e:(⟨#[]⟩:ByteArray).toList=[]:=by kernel_rfl
 refine ⟨λh=>?_,λa=>⟨λh=>?_,λd=>⟨λh=>?_,λf=>⟨λh=>?_,λg=>⟨λh=>?_,λi=>⟨λh=>?_,λj=>?_⟩⟩⟩⟩⟩⟩
 ·simp_all
 ·simp_all
 ·simp_all
 ·simp_all
 ·simp_all
 ·simp_all
 grind
theorem OV(j:aJ):gz (iE 5000 j) (AI j):=by
 have e:(⟨#[]⟩:ByteArray).toList=[]:=by kernel_rfl
 simp only[iE,fN];refine (name_ok j.State).bind λr i=>?_;have no:∀{p:Prop},¬p->(false=true↔p):=λh=>by simp[h]
 rw[bz];refine ⟨λh=>?_,λh=>?_⟩
 ·rw[bm];simp only[e,nD] at h;exact no λk=>i.1 h k.st
 ·simp only[e,nD] at h;have hs:1<=j.State/\j.State<=6:=yCr λl=>h (i.2 l);simp only[ja,WX,ay,b_,cA];have fin:∀Q:Prop,(Q↔((j.Ok=true->j.State=4\/j.State=5)/\(j.cQ=true->j.State=4\/j.State=6)->AI j)/\True)->True:=λ_ _=>trivial;have a:(j.Start≠0->3<=j.State)->(j.End≠0->5<=j.State)->bS (if ((j.Ok&&(j.State != 4))&&(j.State != 5))=true then some false else if ((j.cQ&&(j.State != 4))&&(j.State != 6))=true then some false else some true) λb=>b=true↔AI j:=λf m=>by
   simp only[bz,bm,bI,JY,ne_eq];refine ⟨λq=>no λk=>by have:=k.ok q.1.1;omega,λn=>⟨λq=>no λk=>by have:=k.kill q.1.1;omega,λd=>?_⟩⟩;simp only[Qe];refine ⟨hs,f,m,λo=>?_,λo=>?_⟩
   ·grind
   grind
  have mid:(j.Start≠0->3<=j.State)->bS (if (j.End != 0)=true then (if (!((j.State == 5) || (j.State == 6)))=true then some false else if ((j.Ok&&(j.State != 4))&&(j.State != 5))=true then some false else if ((j.cQ&&(j.State != 4))&&(j.State != 6))=true then some false else some true) else if ((j.Ok&&(j.State != 4))&&(j.State != 5))=true then some false else if ((j.cQ&&(j.State != 4))&&(j.State != 6))=true then some false else some true) λb=>b=true↔AI j:=λf=>by
   rw[bz];refine ⟨λq=>?_,λq=>a f λg=>absurd g (by simp_all)⟩;rw[bz];refine ⟨λd=>?_,λd=>a f λ_=>?_⟩
   ·rw[bm];simp only[JY,ne_eq,iF,Bool.or_eq_false_iff,beq_eq_false_iff_ne] at q d;exact no λk=>by have:=k.fin q;omega
   grind [Bool.or_eq_false_iff]
  rw[bz];refine ⟨λq=>?_,λq=>mid λg=>absurd g (by simp_all)⟩;rw[bz];refine ⟨λd=>?_,λd=>mid λ_=>?_⟩
  ·rw[bm];simp only[JY,ne_eq,gG,nD] at q d;exact no λk=>by have:=k.start q;omega
  grind
theorem Ch(j:aJ):gz (zeM 5000 j) (gj j):=by
 have no:∀{p:Prop},¬p->bS (some false) (λb=>b=true↔p):=λh=>by rw[bm];simp[h]
 simp only[zeM,Ps,ay];have a:∀{l hi x:Int}{o:Option Bool}{P:Prop},(P->l<=x/\x<=hi)->(l<=x/\x<=hi->bS o λb=>b=true↔P)->bS (if (decide (l<=x)&&decide (x<=hi))=true then o else some false) λb=>b=true↔P:=λu m=>by rw[bz];simp only[bI,bB];exact ⟨λh=>m h,λh=>no λp=>h (u p)⟩
 refine a (λk=>k.id) λc1=>a (λk=>k.user) λA=>a (λk=>k.queue) λE=>a (λk=>k.many) λF=>?_;refine (Vj j.aw).bind λr v=>?_;rw[bz];refine ⟨λh=>?_,λh=>no λk=>h ?_⟩
 rotate_left
 ·have N:aE.beq j.aw bU=false:=by
   grind [gH,gj.o_]
  rw[v.2 k.need];change (true&&!(aE.beq j.aw bU))=true
  simp_all
 simp only[bI,iF] at h;have G:=v.1 h.1;have n:j.aw≠bU:=λe=>by
  have m:aE.beq j.aw bU=false:=h.2
  grind [gH]
 refine a (λk=>k.wall) λK=>?_;have g:gz (ie 5000 j) (j.aF.length<=4/\∀d∈j.aF,1<=d.aW/\d.aW<=j.Id-1):=by
  simp only[ie,bz,bm,Ps,ay];refine ⟨λh=>?_,λh=>?_⟩
  ·grind
  ·simp only[bB] at h;refine Ra j.aF (λd=>1<=d.aW/\d.aW<=j.Id-1) _ (λk=>k.2) (λi f w Q u m=>?_) (λf O=>?_) (by omega)
   ·simp only[cX w,if_true,cf w,ay,bY (show i<1000000 by omega),bz,bm,iF,yB5,yBi]
    grind [wr]
   ·simp only[eU,b_,cA,bm,Qe]
    grind
 refine g.bind λS y=>?_;rw[bz];refine ⟨λh=>?_,λh=>no λk=>h (y.2 ⟨k.mF,k.after⟩)⟩;have z:=y.1 h;refine a (λk=>k.version) λL=>a (λk=>k.born) λM=>a (λk=>k.start) λq=>a (λk=>k.fin) λs=>a (λk=>k.arr) λt=>?_;refine (OV j).bind λrs hs=>?_;rw[bm,hs];exact ⟨λk=>⟨c1,A,E,F,G,n,K,z.1,z.2,L,M,q,s,t,k⟩,λk=>k.state⟩
theorem Hn(j:aJ)(hl:j.aF.length<=10):gz (zcQ 5000 j) (gj j):=by
 simp only[zcQ,fN,Up,ay];refine Ra j.aF (λd=>1<=d.aW/\d.aW<=i64.wrap (j.Id-1)) _ (λk d a=>by have:=k.after d a;have:=k.id;grind [wr]) (λi f e Q g A=>?_) (λf E=>?_) (by omega)
 ·simp only[cX e,if_true,cf e,ay,bY (show i<1000000 by omega),bz,bm,iF,yB5,yBi]
  grind
 ·simp only[eU,b_,cA];obtain ⟨F,l,g⟩:=BH j.aw;simp only[l,ay];have no:∀{p:Prop},¬p->(False↔p):=λh=>by simp[h]
  simp only[if_true,cA,bz,bm,bB,iF,yB5,yBi,bI,b_,oO,JY,ne_eq,gG,nD];refine ⟨λc=>no λk=>by grind [gj.mF],λG=>⟨λc=>no λk=>by have:=k.id;omega,λc1=>⟨λc=>no λk=>by have:=k.user;omega,λK=>⟨λc=>no λk=>by have:=k.queue;omega,λL=>⟨λc=>no λk=>by have:=k.many;omega,λM=>⟨λc=>no λk=>(by grind [gj.need]),λm=>?_⟩⟩⟩⟩⟩⟩;have v:=g.1 m;have n:Pn 5000 j.aw ({ bG:=0,Mem:=0,bK:=0,bM:=0 }:aE)=some (decide (j.aw=bU)):=Ib v;simp only[if_true,cA,n,ay,bz,bm,bB,iF,yB5,yBi,bI,b_,oO,JY,ne_eq,gG,nD];refine ⟨λc=>no λk=>k.o_ c,λq=>⟨λc=>no λk=>by have:=k.wall;omega,λN=>⟨λc=>no λk=>by have:=k.state.st;omega,λO=>⟨λc=>no λk=>by have:=k.version;omega,λS=>⟨λc=>no λk=>by have:=k.arr;omega,λr=>⟨λc=>no λk=>by have:=k.born;omega,λs=>⟨λc=>no λk=>by have:=k.start;omega,λt=>⟨λc=>no λk=>by have:=k.fin;omega,λu=>⟨λc=>no λk=>by have:=k.state.start;omega,λw=>⟨λc=>no λk=>by have:=k.state.fin;omega,λx=>⟨λy=>?_,λc=>no λk=>c ?_⟩⟩⟩⟩⟩⟩⟩⟩⟩⟩⟩
  ·constructor
   ·intro z;refine ⟨by omega,by omega,by omega,by omega,v,q,by omega,by omega,λd a=>?_,by omega,by omega,by omega,by omega,by omega,⟨by omega,by omega,by omega,λo=>?_,λo=>?_⟩⟩
    ·grind [wr]
    ·simp_all
    simp_all
   ·intro k;cases hk:j.cQ with
    |false=>simp_all
    |true=>
     rcases k.state.kill hk with c | c
     ·omega
     omega
  ·cases hk:j.Ok with
   |false=>simp_all
   |true=>
    rcases k.state.ok hk with c | c
    ·omega
    omega
section
variable{X R:Type}{b:(X->Option R)->X->Option R}{Q:R->Prop}
theorem lpM(I:X->Prop)(m:X->Nat)(hs:∀x f,I x->(∀d,I d->m d<m x->bS (f d) Q)->bS (b f x) Q){a:X}(g:I a){N:Nat}(i:m a<N):bS (bD b N a) Q:=by
 induction N generalizing a with
 |zero=>omega
 |succ N ih=>exact hs a _ g λd e h=>ih e (by omega)
end
theorem mid{i j:Nat}(h:i+j<1000000):i64.wrap (Int.fdiv (u64.wrap (i64.wrap ((i:Int)+(j:Int)))) (2 ^ 1))=(((i+j) / 2:Nat):Int):=by
 rw[wr (x:=(i:Int)+(j:Int)) (by omega) (by omega)]
 grind [Go.IntKind.wrap,Go.IntKind.bits]
def bZ(l:List aJ):Prop:=∀i (h:i+1<l.length),l[i].Id<l[i+1].Id
theorem bZ.lt{l:List aJ}(h:bZ l):∀{i j:Nat}(s:i<j)(u:j<l.length),l[i].Id<l[j].Id:=by
 intro i j s u;induction j with
 |zero=>omega
 |succ j ih=>
  have x:=h j u
  grind
theorem bZ.inj{l:List aJ}(h:bZ l){i j:Nat}(hi:i<l.length)(u:j<l.length)(e:l[i].Id=l[j].Id):i=j:=by
 rcases WI i j with s | s | s
 ·have:=h.lt s u;omega
 ·exact s
 ·have:=h.lt s hi;omega
structure At (l:List aJ) (id:Int) (r:Int):Prop where
 lo:0<=r
 hi:r.toNat<l.length
 is:l[r.toNat].Id=id
theorem At.mem{l:List aJ}{id r:Int}(h:At l id r):∃j∈l,j.Id=id:=⟨l[r.toNat]'h.hi,bH _,h.is⟩
theorem At.CB{l:List aJ}{id r i:Int}(hs:bZ l)(h:At l id r)(j:At l id i):r=i:=by have:=hs.inj h.hi j.hi (by grind [At.is]);have:=h.lo;have:=j.lo;omega
theorem half{l:List aJ}(hl:l.length<=300)(hs:bZ l)(id:Int){R:Type}{Q:R->Prop}(C:aJ->Option Bool)(n:∀j∈l,C j=some (decide (j.Id<id)))(E:Int->Option R)
  (u:∀i:Nat,i<=l.length->(∀k (h:k<l.length),k<i->l[k].Id<id)->(∀k (h:k<l.length),i<=k->id<=l[k].Id)->bS (E (i:Int)) Q) :
  ∀ (b : (Int × Int -> Option R) -> Int × Int -> Option R), (∀ f x, b f x = if decide (x.1 < x.2) = true then (aC l (i64.wrap (Int.fdiv (u64.wrap (i64.wrap (x.1 + x.2))) (2 ^ 1)))).bind λa => (C a).bind λc => if c = true then f ((i64.wrap ((i64.wrap (Int.fdiv (u64.wrap (i64.wrap (x.1 + x.2))) (2 ^ 1))) + 1)), x.2) else f (x.1, (i64.wrap (Int.fdiv (u64.wrap (i64.wrap (x.1 + x.2))) (2 ^ 1)))) else E x.1) ->
   bS (bD b 5000 (0,(l.length:Int))) Q:=by
 intro b hb;refine lpM (λx=>∃i j:Nat,x=((i:Int),(j:Int))/\i<=j/\j<=l.length/\(∀k (h:k<l.length),k<i->l[k].Id<id)/\(∀k (h:k<l.length),j<=k->id<=l[k].Id)) (λx=>(x.2-x.1).toNat) (λx f p m=>?_) ⟨0,l.length,rfl,by omega,by omega,λk h hk=>by omega,λk h hk=>by omega⟩ (by omega);obtain ⟨i,j,rfl,v,r,s,t⟩:=p;rw[hb,bz];dsimp only;refine ⟨λh=>?_,λh=>?_⟩
 ·simp only[bB] at h;rw[mid (by omega)];have e:(i+j) / 2<l.length:=by omega
  rw[cf e,ay,n _ (bH e),ay,bz];refine ⟨λg=>?_,λg=>?_⟩
  ·simp only[bB] at g;rw[bY (by omega)];refine m _ ⟨(i+j) / 2+1,j,rfl,by omega,r,λk hk d=>?_,t⟩ (by omega);rcases YH (yCy.1 d) with q | q
   ·have:=hs.lt q e;omega
   simp_all
  ·simp only[bB] at g;refine m _ ⟨i,(i+j) / 2,rfl,by omega,by omega,s,λk hk d=>?_⟩ (by omega);rcases YH d with q | q
   ·have:=hs.lt q hk;omega
   simp_all
 ·simp only[bB] at h;have:i=j:=by omega
  simp_all
theorem Sv{l:List aJ}(hl:l.length<=300)(hs:bZ l){id:Int}(m:0<=id/\id<=1048576)(g:∀j∈l,0<=j.Id/\j.Id<=1048576):bS (mZ 5000 l id) λr=>(r.2=true↔∃j∈l,j.Id=id)/\(r.2=true->At l id r.1):=by
 simp only[mZ,zaB];rw[jT];refine half hl hs id (λj=>some (decide (i64.wrap (j.Id-id)<0))) (λj d=>?_) (λi=>if (decide (i<(l.length:Int)))=true then (aC l i).bind λn=>(gK 5000 n id).bind λp=>some (i,(p == 0)) else some (i,false)) (λi hi s t=>?_) _ (λf x=>rfl)
 ·have:=g j d;rw[wr (by omega) (by omega)]
  grind
 ·rw[bz];refine ⟨λh=>?_,λh=>?_⟩
  ·simp only[bB] at h;have a:i<l.length:=by omega
   have:=g _ (bH a);rw[cf a,ay];simp only[gK,ay,bm,nD];rw[wr (by omega) (by omega)];refine ⟨⟨λe=>⟨_,bH a,by omega⟩,λ⟨j,d,e⟩=>?_⟩,λe=>⟨by omega,by omega,by grind⟩⟩;obtain ⟨k,hk,rfl⟩:=jc d;rcases WI k i with q | q | q
   ·grind
   ·simp_all
   ·have:=hs.lt q hk;grind
  ·simp only[bB] at h;simp only[bm,b_,GN,false_implies,NV]
   grind [List.getElem_of_mem]
theorem wB{l:List aJ}(hl:l.length<=300)(id:Int):bS (Pp 5000 l id) λr=>(0<=r↔∃j∈l,j.Id=id)/\(0<=r->At l id r)/\(r<0->r=-1):=by
 simp only[Pp];refine yE l (λ_ j=>j.Id≠id) (λi f h _ a=>?_) (λf h=>?_) (by omega)
 ·simp only[cX h,if_true,cf h,ay,bY (show i<1000000 by omega),bz,bm,nD];exact ⟨λe=>⟨⟨λ_=>⟨_,bH h,e⟩,λ_=>by omega⟩,λ_=>⟨by omega,by omega,by simp_all⟩,λh=>by omega⟩,λe=>a e⟩
 ·simp only[eU,b_,cA,bm];refine ⟨⟨λh=>by omega,λ⟨j,d,e⟩=>absurd e (Er (A:=λj=>j.Id≠id) h j d)⟩,λh=>by omega,λ_=>trivial⟩
structure Ei (l:List cM) (n:Int) (i:Nat) (x:cM):Prop where
 up:LY (l.map (·.Node)) i<x.Node
 lt:x.Node<n
 lo:1<=x.aK
 hi:x.aK<=64
def bo(l:List cM)(n:Int):Prop:=∀i (h:i<l.length),Ei l n i l[i]
theorem bo.node{l:List cM}{n:Int}(h:bo l n):nI (l.map (·.Node)) n:=λi hi=>by rw[yH] at hi;rw[Pv];exact ⟨(h i hi).up,(h i hi).lt⟩
theorem bo.mem{l:List cM}{n:Int}(h:bo l n):∀x∈l,0<=x.Node/\x.Node<n/\1<=x.aK/\x.aK<=64:=λx j=>by have s:=h.node.mem x.Node (iP.2 ⟨x,j,rfl⟩);obtain ⟨i,hi,rfl⟩:=jc j;have u:=h i hi;exact ⟨s.1,s.2,u.lo,u.hi⟩
theorem sm{l:List cM}{i:Nat}(h:i<l.length):LY (l.map (·.Node)) (i+1)=l[i].Node:=by grind [qT]
theorem oJ(l:List cM)(n:Int)(hl:l.length<=300):gz (zen 5000 l n) (bo l n):=by
 simp only[zen];refine jC l.length (λi x=>x=(LY (l.map (·.Node)) i,(i:Int))/\∀j (e:j<l.length),j<i->Ei l n j l[j]) (λi x f hi a m=>?_) (λx f a=>?_) ⟨rfl,λj e h=>by omega⟩ (by omega)
 ·obtain ⟨rfl,g⟩:=a;simp only[cX hi,if_true,cf hi,ay,bY (show i<1000000 by omega),bz,bm,gG,bB];refine ⟨λh=>?_,λh=>m _ ⟨by rw[sm hi],λj e d=>?_⟩⟩
  ·simp only[b_,GN];intro p;have q:=p i hi;have r:=q.up;have s:=q.lt;have t:=q.lo;have u:=q.hi;omega
  ·rcases YH (yCy.1 d) with k | k
   ·simp_all
   ·subst k;exact ⟨by omega,by omega,by omega,by omega⟩
 ·obtain ⟨rfl,g⟩:=a;simp only[eU,b_,cA,bm,Qe];exact λi hi=>g i hi hi
theorem Ir(l:List cM)(n:Int)(hl:l.length<=300):gz (zbl 5000 l n) (bo l n):=by
 simp only[zbl,fN];refine yE l (λi a=>Ei l n i a) (λi f h v e=>?_) (λf h=>?_) (by omega)
 ·have g:decide ((i:Int) > 0)=decide (0<i):=by simp
  simp only[cX h,if_true,cf h,ay,bY (show i<1000000 by omega),bz,bm,bB,g,b_,cA];have bad:¬(Ei l n i l[i])->(False↔bo l n):=λj=>by simp only[GN];exact λd=>j (d i h)
  refine ⟨λp=>?_,λp=>⟨λq=>bad λk=>by have:=k.lt;omega,λq=>⟨λr=>bad λk=>by have:=k.lo;omega,λr=>⟨λs=>bad λk=>by have:=k.hi;omega,λs=>⟨λt=>?_,λt=>?_⟩⟩⟩⟩⟩
  ·simp only[GN];intro d;have:=(d.mem _ (bH h)).1;omega
  ·obtain ⟨m,rfl⟩:∃m,i=m+1:=⟨i-1,by omega⟩;rw[wp1 (show m+1<1000000 by omega),cf (show m<l.length by omega)];simp only[ay,bz,bB,bm,b_];exact ⟨λu=>bad λk=>by have:=k.up;grind [sm],λu=>e ⟨by grind [sm],by omega,by omega,by omega⟩⟩
  ·have:i=0:=by omega
   subst this;exact e ⟨by grind [LY],by omega,by omega,by omega⟩
 ·simp only[eU,b_,cA,bm,Qe];exact h
def lN(l:List cM):Int:=(l.map (·.aK)).sum
theorem Zg{l:List cM}(h:∀x∈l,1<=x.aK/\x.aK<=64):0<=lN l/\lN l<=64 * l.length:=by
 induction l with
 |nil=>simp[lN]
 |cons x l ih=>
  have:=ih λy a=>h y (pp _ a)
  grind [lN]
theorem MD{l:List cM}{i:Nat}(h:i<l.length):lN (l.take (i+1))=lN (l.take i)+l[i].aK:=by grind [List.take_succ_eq_append_getElem,lN]
theorem NG{l:List cM}{n:Int}(hl:l.length<=300)(h:bo l n):oP 5000 l=some (lN l):=by
 simp only[oP];refine bS.eq (jC l.length (λi x=>x=(lN (l.take i),(i:Int))) (λi x f hi a e=>?_) (λx f a=>?_) (by simp[lN]) (by omega))
 ·subst a;have q:=h.mem _ (bH hi);have b:=Zg (l:=l.take i) λx a=>(h.mem x (Px a)).2.2;have g:((l.take i).length:Int)<=300:=by rw[Dj];omega
  have d:zcp 5000 l[i].aK 0 64=some l[i].aK:=by
   simp only[zcp]
   grind
  simp only[cX hi,if_true,cf hi,ay,d,bY (show i<1000000 by omega)]
  grind [wr,MD]
 ·subst a;simp only[eU,b_,cA,bm,zp]
theorem Vp{l:List cM}{n:Int}(hl:l.length<=300)(h:bo l n):zcW 5000 l=some (lN l):=by
 simp only[zcW,fN];refine bS.eq (jC l.length (λi x=>x=(lN (l.take i),(i:Int))) (λi x f hi a d=>?_) (λx f a=>?_) (by simp[lN]) (by omega))
 ·subst a;have q:=h.mem _ (bH hi);have b:=Zg (l:=l.take i) λx a=>(h.mem x (Px a)).2.2;have e:((l.take i).length:Int)<=300:=by grind
  simp only[cX hi,if_true,cf hi,ay,bY (show i<1000000 by omega)];rw[if_neg (by simp_all),if_pos (by grind),wr (by omega) (by omega)]
  grind [MD]
 ·subst a;simp only[eU,b_,cA,bm,zp]
theorem OZ(l:List Int)(hl:l.length<=300)(x:Int):gz (zb9 5000 l x) (x∈l):=by
 simp only[gz,zb9,zd7];rw[jT];refine yE l (λ_ y=>x≠y) (λi f h _ a=>?_) (λf h=>?_) (by omega)
 ·simp only[cX h,if_true,cf h,ay,bY (show i<1000000 by omega),bz,nD];refine ⟨λe=>?_,λe=>a e⟩;simp only[bm,bB]
  simp_all
 ·simp only[eU,b_,cA,bm,bB];exact ⟨λh=>by omega,λd=>absurd rfl (Er (A:=λy=>x≠y) h x d)⟩
theorem ref_has(l:List Int)(hl:l.length<=300)(x:Int):gz (ze5 5000 l x) (x∈l):=by
 simp only[ze5];refine yE l (λ_ y=>y≠x) (λi f h _ d=>?_) (λf h=>?_) (by omega)
 ·simp only[cX h,if_true,cf h,ay,bY (show i<1000000 by omega),bz,nD,bm,Qe]
  grind
 ·simp only[eU,b_,cA,bm,GN];exact λa=>absurd rfl (Er (A:=λy=>y≠x) h x a)
structure ju (s:bg) (j:aJ) (l:List cM):Prop where
 shares:bo l s.aj.length
 WN:lN l=j.aK
 q:0<=j.Queue/\j.Queue<s.aq.length
 part:∀x∈l,x.Node∈(s.aH[((s.aq[j.Queue.toNat]?).getD default).Part.toNat]?).getD []
theorem Mc{s:bg}(hs:nZ s)(k:bq s)(j:aJ)(l:List cM)(hl:l.length<=300):gz (zfb 5000 s j l) (ju s j l):=by
 have no:∀{p:Prop},¬p->bS (some false) (λb=>b=true↔p):=λh=>by rw[bm];simp[h]
 simp only[zfb,fN];refine (oJ l _ hl).bind λr g=>?_;rw[bz];refine ⟨λh=>?_,λh=>?_⟩
 ·simp only[if_true];exact no λk=>by grind [ju.shares]
 ·simp only[iF,oO] at h;have S:=g.1 h;rw[NG hl S,ay,bz];refine ⟨λq=>no λk=>by grind [ju.WN],λq=>?_⟩;have t:lN l=j.aK:=by simp_all
  rw[bz];refine ⟨λu=>no λk=>by have:=k.q;grind,λu=>?_⟩;have a:0<=j.Queue/\j.Queue<s.aq.length:=by simp_all
  obtain ⟨d,e⟩:=Hb a.1 a.2;have m:=k.iA.ok _ (bH d);obtain ⟨v,w⟩:=Hb m.part.1 m.part.2;have lp:=hs.part _ (bH v);have y:(s.aH[((s.aq[j.Queue.toNat]?).getD default).Part.toNat]?).getD []=s.aH[s.aq[j.Queue.toNat].Part.toNat]:=by simp_all
  rw[e,ay,w,ay];refine Ra l (λx=>x.Node∈s.aH[s.aq[j.Queue.toNat].Part.toNat]) _ (λk x d=>by rw[<-y];exact k.part x d) (λi f n Q z A=>?_) (λf E=>?_) (by omega)
  ·simp only[cX n,if_true,cf n,ay,bY (show i<1000000 by omega)];refine (OZ _ (kI lp (by decide)) _).bind λr g=>?_;simp only[bz,bm,iF,oO]
   grind
  ·simp only[eU,b_,cA,bm,Qe];exact ⟨S,t,a,by simp_all⟩
theorem Zu{s:bg}(hs:nZ s)(k:bq s)(j:aJ)(l:List cM)(hl:l.length<=300):gz (zcs 5000 s j l) (ju s j l):=by
 have no:∀{p:Prop},¬p->bS (some false) (λb=>b=true↔p):=λh=>by rw[bm];simp[h]
 simp only[zcs,fN];refine (Ir l _ hl).bind λr g=>?_;rw[bz];refine ⟨λh=>?_,λh=>?_⟩
 ·simp only[if_true];exact no λk=>by grind [ju.shares]
 ·simp only[iF,oO] at h;have S:=g.1 h;rw[Vp hl S,ay,bz];refine ⟨λt=>no λk=>by have:=k.WN;have:=k.q;grind,λt=>?_⟩;have m:lN l=j.aK/\0<=j.Queue/\j.Queue<s.aq.length:=by simp_all
  have a:=m.2;obtain ⟨d,e⟩:=Hb a.1 a.2;have n:=k.iA.ok _ (bH d);obtain ⟨u,v⟩:=Hb n.part.1 n.part.2;have lp:=hs.part _ (bH u);have w:(s.aH[((s.aq[j.Queue.toNat]?).getD default).Part.toNat]?).getD []=s.aH[s.aq[j.Queue.toNat].Part.toNat]:=by simp_all
  rw[e,ay,v,ay];refine Ra l (λx=>x.Node∈s.aH[s.aq[j.Queue.toNat].Part.toNat]) _ (λk x d=>by rw[<-w];exact k.part x d) (λi f q Q y z=>?_) (λf A=>?_) (by omega)
  ·simp only[cX q,if_true,cf q,ay,bY (show i<1000000 by omega)];refine (ref_has _ (kI lp (by decide)) _).bind λr g=>?_;simp only[bz,bm,iF,oO]
   grind
  ·simp only[eU,b_,cA,bm,Qe];exact ⟨S,m.1,a,by simp_all⟩
def cmp:Nat->aE->Int
 |0,r=>r.bG
 |1,r=>r.Mem
 |2,r=>r.bK
 |_,r=>r.bM
theorem wW{r:aE}:aO r↔∀c,0<=cmp c r/\cmp c r<=1048576:=by
 constructor
 ·intro h c
  match c with
  |0=>exact h.G_
  |1=>exact h.mem
  |2=>exact h.KN
  |_+3=>exact h.LX
 ·intro h;exact ⟨h 0,h 1,h 2,h 3⟩
theorem dX{a b:aE}(h:∀c,cmp c a=cmp c b):a=b:=by
 obtain ⟨d,e,f,g⟩:=a;obtain ⟨i,j,k,l⟩:=b;have m:=h 0;have n:=h 1;have p:=h 2;have q:=h 3
 grind [cmp]
def fy(a b:aE):aE:={ bG:=a.bG-b.bG,Mem:=a.Mem-b.Mem,bK:=a.bK-b.bK,bM:=a.bM-b.bM }
def BT(a b:aE):aE:={ bG:=a.bG+b.bG,Mem:=a.Mem+b.Mem,bK:=a.bK+b.bK,bM:=a.bM+b.bM }
def mulR(n:Int)(a:aE):aE:={ bG:=n * a.bG,Mem:=n * a.Mem,bK:=n * a.bK,bM:=n * a.bM }
theorem Cz(c:Nat)(a b:aE):cmp c (fy a b)=cmp c a-cmp c b:=by match c with | 0=>rfl | 1=>rfl | 2=>rfl | _+3=>rfl
theorem wQ(c:Nat)(a b:aE):cmp c (BT a b)=cmp c a+cmp c b:=by match c with | 0=>rfl | 1=>rfl | 2=>rfl | _+3=>rfl
theorem CH(c:Nat)(n:Int)(a:aE):cmp c (mulR n a)=n * cmp c a:=by match c with | 0=>rfl | 1=>rfl | 2=>rfl | _+3=>rfl
theorem Pw(c:Nat):cmp c bU=0:=by match c with | 0=>rfl | 1=>rfl | 2=>rfl | _+3=>rfl
theorem Ek{a:Int}(h:a.natAbs<2 ^ 53):BJ a=some a:=by unfold BJ;simp_all
theorem IS{a b c d:Int}(e:a.natAbs<2 ^ 53)(hb:b.natAbs<2 ^ 53)(f:c.natAbs<2 ^ 53)(g:d.natAbs<2 ^ 53) :
  bS (zdD 5000 (a,b) (c,d)) λr=>(r.2=0↔aO ⟨a,b,c,d⟩)/\(r.2=0->r.1=⟨a,b,c,d⟩):=by
 simp only[zdD,nh,Ek e,Ek hb,Ek f,Ek g,ay];refine (Vj _).bind λr h=>?_;simp only[bz,bm,iF,oO]
 grind
theorem hY{n x:Int}(a:0<=n/\n<=64)(d:0<=x/\x<=1048576):0<=n * x/\n * x<=67108864:=by have e:0<=n * x:=yCc a.1 d.1;have f:n * x<=64 * x:=yAW a.2 d.1;omega
theorem OW{a:aE}{n:Int}(d:aO a)(m:1<=n/\n<=64):bS (mw 5000 a n) λr=>(r.2=0↔aO (mulR n a))/\(r.2=0->r.1=mulR n a):=by
 simp only[mw];obtain ⟨p,i,j⟩:=Vj a;have k:=j.2 d;subst k;have e:0<=n/\n<=64:=by omega
 simp only[i,ay,Pu,Bool.false_or];rw[if_neg (by simp_all)];by_cases g:a=bU
 ·subst g;rw[if_pos (by exact gH.2 rfl),bm];have:mulR n bU=bU:=by simp[mulR,bU]
  rw[this];exact ⟨⟨λ_=>⟨by simp[bU],by simp[bU],by simp[bU],by simp[bU]⟩,λ_=>rfl⟩,λ_=>rfl⟩
 ·rw[if_neg (show ¬(aE.beq a ({ bG:=0,Mem:=0,bK:=0,bM:=0 }:aE)=true) from λh=>g (gH.1 h)),if_neg (by grind)];have f:∀{x:Int},0<=x/\x<=1048576->yN x n=some (x * n):=λ{x} q=>by unfold yN;grind
  have s:=hY e d.G_;have t:=hY e d.mem;have u:=hY e d.KN;have v:=hY e d.LX;simp only[zdg,ay,f d.G_,f d.mem,f d.KN,f d.LX];rw[Int.mul_comm a.bG n,Int.mul_comm a.Mem n,Int.mul_comm a.bK n,Int.mul_comm a.bM n];refine (IS (by omega) (by omega) (by omega) (by omega)).bind λr l=>?_;rw[bm];exact l
theorem XL{a b:aE}(d:aO a)(hb:aO b):bS (xe 5000 a b) λr=>(r.2=0↔aO (fy a b))/\(r.2=0->r.1=fy a b):=by
 simp only[xe,fN];obtain ⟨m,f,g⟩:=Vj a;have h:=g.2 d;subst h;obtain ⟨n,i,j⟩:=Vj b;have k:=j.2 hb;subst k;have e:∀{x y:Int},0<=x/\x<=1048576->0<=y/\y<=1048576->yV x y=some (x-y):=λ{x y} p q=>by unfold yV;grind
 simp only[f,i,ay,Pu,b_,cA,zdg,e d.G_ hb.G_,e d.mem hb.mem,e d.KN hb.KN,e d.LX hb.LX];have:=d.G_;have:=d.mem;have:=d.KN;have:=d.LX;have:=hb.G_;have:=hb.mem;have:=hb.KN;have:=hb.LX;refine (IS (by omega) (by omega) (by omega) (by omega)).bind λr l=>?_;rw[bm];exact l
def dO(l:List cM)(i:Int):Int:=(l.map λx=>if x.Node=i then x.aK else 0).sum
theorem oa{l:List cM}{k:Nat}(h:k<l.length)(i:Int):dO (l.take (k+1)) i=dO (l.take k) i+if l[k].Node=i then l[k].aK else 0:=by grind [List.take_succ_eq_append_getElem,dO]
theorem y_{l:List cM}(h:∀x∈l,0<=x.aK)(i:Int):0<=dO l i:=by
 induction l with
 |nil=>simp[dO]
 |cons x l ih=>grind [dO]
theorem SW{l m:List cM}(i:Int):dO (l++m) i=dO l i+dO m i:=by simp[dO]
theorem onV_le{l:List cM}(h:∀x∈l,0<=x.aK)(k:Nat)(i:Int):dO (l.take k) i<=dO l i:=by have:=SW (l:=l.take k) (m:=l.drop k) i;rw[OJ] at this;have:=y_ (l:=l.drop k) (λx a=>h x (yBp a)) i;omega
theorem sR{l:List cM}{n:Int}(h:bo l n)(i:Int):0<=dO l i/\dO l i<=64:=by
 refine ⟨y_ (λx d=>by have:=h.mem x d;omega) i,?_⟩;have a:∀k,k<=l.length->(dO (l.take k) i<=64/\(dO (l.take k) i≠0->i<=LY (l.map (·.Node)) k)):=by
  intro k;induction k with
  |zero=>grind [dO]
  |succ k ih=>intro hk;obtain ⟨e,f⟩:=ih (by omega);have s:=h k (by omega);have s1:=s.up;have g:=s.lt;have j:=s.lo;have m:=s.hi;rw[oa (by omega),sm (show k<l.length by omega)];omega
 have:=(a l.length (cN _)).1
 simp_all
theorem Qq{l:List cM}{n:Int}(hl:l.length<=300)(h:bo l n)(i:Int):zct 5000 l i=some (dO l i):=by
 simp only[zct,fN];refine bS.eq (jC l.length (λk x=>x=(dO (l.take k) i,(k:Int))) (λk x f hi a g=>?_) (λx f a=>?_) (by simp[dO]) (by omega))
 ·subst a;have q:=h.mem _ (bH hi);have b:=y_ (l:=l.take k) (λx a=>by have:=h.mem x (Px a);omega) i;have j:=onV_le (λx a=>by have:=h.mem x a;omega) k i;have m:=sR h i;have e:=oa hi i;simp only[cX hi,if_true,cf hi,ay,bY (show k<1000000 by omega),bz,nD];refine ⟨λd=>?_,λd=>g _ ?_⟩
  ·rw[if_pos d] at e
   grind [wr]
  simp_all
 ·subst a;simp only[eU,b_,cA,bm,zp]
def qv(a:bO)(i:Nat)(r:aE):aE:=fy r (mulR (dO a.ai i) a.aw)
def uD(F:List aE)(a:bO):Prop:=∀i (h:i<F.length),aO (qv a i F[i])
structure sJ (F:List aE) (a:bO) (G:List aE):Prop where
 len:G.length=F.length
 cO:∀i (h:i<G.length),G[i]=qv a i (F[i]'(by omega))
theorem Vh{a:bO}{F:List aE}(hF:F.length<=300)(hl:a.ai.length<=300)(N:bo a.ai F.length)(E:aO a.aw)(S:∀r∈F,aO r) :
  bS (zbO 5000 a F) λr=>(r.2=0↔uD F a)/\(r.2=0->sJ F a r.1):=by
 simp only[zbO,za9,GP (show F.length<=1000000 by omega),ay];have nn:∀x∈a.ai,0<=x.aK:=λx p=>by have:=N.mem x p;omega
 refine jC a.ai.length (λk x=>x.1=(k:Int)/\x.2.length=F.length/\(∀r∈x.2,aO r)/\∀i (h:i<x.2.length) (j:i<F.length),x.2[i]=fy F[i] (mulR (dO (a.ai.take k) i) a.aw)) (λk x f hk p T=>?_) (λx f p=>?_) ⟨rfl,rfl,S,λi h j=>?_⟩ (by omega)
 ·obtain ⟨U,G⟩:=x;obtain ⟨rfl,g,m,d⟩:=p;dsimp only at g m d ⊢;have q:=N.mem _ (bH hk);have O:a.ai[k].Node.toNat<G.length:=by omega
  have u:a.ai[k].Node.toNat<F.length:=by omega
  have K:((a.ai[k].Node.toNat:Nat):Int)=a.ai[k].Node:=by omega
  have W:=oa hk a.ai[k].Node;rw[if_pos rfl] at W;have le:=onV_le nn (k+1) a.ai[k].Node;have n0:=y_ (l:=a.ai.take k) (λx p=>nn x (Px p)) a.ai[k].Node;have L:=d _ O u;rw[K] at L;have bad:(∃c,cmp c G[a.ai[k].Node.toNat]-a.ai[k].aK * cmp c a.aw<0)->¬uD F a:=λ⟨c,w⟩ y=>by
   have M:=wW.1 (y _ u) c;rw[qv,Cz,CH,K] at M;rw[L,Cz,CH] at w;have z:0<=cmp c a.aw:=(wW.1 E c).1;have h3:(dO (a.ai.take k) a.ai[k].Node+a.ai[k].aK) * cmp c a.aw<=dO a.ai a.ai[k].Node * cmp c a.aw:=yAW (by omega) z
   grind
  simp only[cX hk,if_true,cf hk,ay,bY (show k<1000000 by omega)];refine (OW E q.2.2).bind λr s=>?_;simp only[bz,bm,JY,ne_eq,Wh];refine ⟨λh=>⟨⟨λj=>absurd j h,λy=>?_⟩,λj=>absurd j h⟩,λh=>?_⟩
  ·exfalso;refine bad ?_ y;have n:¬aO (mulR a.ai[k].aK a.aw):=λv=>h (s.1.2 v);rw[wW] at n;obtain ⟨c,w⟩:=Classical.not_forall.1 n;refine ⟨c,?_⟩;rw[CH] at w;have M:=hY (show 0<=a.ai[k].aK/\a.ai[k].aK<=64 by omega) (wW.1 E c)
   grind [wW,List.getElem_mem]
  ·have Y:=s.2 h;have Z:=s.1.1 h;obtain ⟨aa,e⟩:=Hb (l:=G) (x:=a.ai[k].Node) (by omega) (by omega);rw[e,ay,Y];refine (XL (m _ (bH O)) Z).bind λr2 t=>?_;simp only[ay,bz,bm,JY,ne_eq,Wh];refine ⟨λj=>⟨⟨λz=>absurd z j,λy=>?_⟩,λz=>absurd z j⟩,λj=>?_⟩
   ·exfalso;refine bad ?_ y;have n:¬aO (fy G[a.ai[k].Node.toNat] (mulR a.ai[k].aK a.aw)):=λv=>j (t.1.2 v);rw[wW] at n;obtain ⟨c,w⟩:=Classical.not_forall.1 n;refine ⟨c,?_⟩;rw[Cz,CH] at w;have M:=hY (show 0<=a.ai[k].aK/\a.ai[k].aK<=64 by omega) (wW.1 E c)
    grind [wW,List.getElem_mem]
   ·have e2:=t.2 j;have v2:=t.1.1 j;refine T _ ⟨rfl,by simp_all,λr ab=>?_,λi hi ad=>?_⟩
    ·grind
    ·dsimp only at hi ⊢;rw[yBz] at hi;rw[List.getElem_set];have A:=oa hk (i:Int);split
     ·rename_i ei;subst ei;rw[e2,L];rw[if_pos K.symm] at A;rw[A];refine dX λc=>?_;rw[Cz,Cz,Cz,CH,CH,CH,Int.add_mul,K];omega
     grind
 ·obtain ⟨U,G⟩:=x;obtain ⟨rfl,g,m,d⟩:=p;dsimp only at g m d ⊢;simp only[eU,b_,cA,bm,zp,Qe,true_implies] at d ⊢;refine ⟨λi h=>?_,g,λi h=>d i h (by omega)⟩;have:=m _ (bH (show i<G.length by omega));rw[d i (by omega) h] at this;exact this
 ·refine dX λc=>?_;rw[Cz,CH];simp[dO]
theorem Io{a:bO}(h:a.ai.length<=1000000):jp 5000 a=some a:=by simp only[jp,zby,GP h,ay]
structure uS (M:List (Int×bO)) (F:List aE) (a:bO):Prop where
 Eb:1<=a.aW/\a.aW<=1048576
 some':a.ai≠[]
 shares:bo a.ai F.length
 need:aO a.aw
 free:dq M a.aW=none
 fits:uD F a
theorem Kc{M:List (Int×bO)}{a:bO}{F:List aE}(g:F.length<=300)(hl:a.ai.length<=300)(i:∀r∈F,aO r) :
  bS (zaY 5000 M a F) λr=>(r.2.1=0↔uS M F a)/\(r.2.1=0->r.1=kj M a.aW a/\sJ F a r.2.2):=by
 simp only[zaY,fN,if_true,b_,cA];have no:∀{p:Prop}{x:List (Int×bO)×Int×List aE}{q:Prop},¬p->x.2.1≠0->bS (some x) (λr=>(r.2.1=0↔p)/\(r.2.1=0->r.1=kj M a.aW a/\sJ F a r.2.2)):=λ{p x q} l m=>by grind [bm]
 rw[bz];refine ⟨λh=>?_,λh=>?_⟩
 ·simp only[gG,bB,nD] at h;refine no (q:=True) (λt=>?_) (by simp);have:=t.Eb;rcases h with h | h
  ·omega
  ·exact t.some' (Xb (by omega))
 ·simp only[gG,bB,nD,not_or] at h;refine (oJ _ _ hl).bind λr j=>?_;rw[bz];refine ⟨λe=>no (q:=True) (λt=>by grind [uS.shares]) (by simp),λe=>?_⟩;simp only[iF,oO] at e;have S:=j.1 e;refine (Vj a.aw).bind λn f=>?_;rw[bz];refine ⟨λe=>no (q:=True) (λt=>by grind [uS.need]) (by simp),λe=>?_⟩;simp only[iF,oO] at e;have V:=f.1 e;cases k:dq M a.aW with
  |some v=>exact no (q:=True) (λt=>by grind [uS.free]) (by simp)
  |none=>
   simp only[oel];refine (Vh g hl S V i).bind λs d=>?_;rw[bz];refine ⟨λe=>?_,λe=>?_⟩
   ·simp only[JY,ne_eq] at e;exact no (q:=True) (λt=>e (d.1.2 t.fits)) e
   ·simp only[JY,ne_eq,Wh] at e;rw[Io (by omega),ay,bm];refine ⟨⟨λ_=>⟨by omega,λu=>?_,S,V,k,d.1.1 e⟩,λ_=>rfl⟩,λ_=>⟨rfl,d.2 e⟩⟩
    simp_all
theorem de{p:Prop}(h:¬p):bS (some false) (λb=>b=true↔p):=by grind [bm]
theorem tj{p:Prop}(h:p):bS (some true) (λb=>b=true↔p):=by grind [bm]
structure Q_ (s:bg) (st:bT):Prop where
 now:0<=st.aP/\st.aP<=1099511627776
 next:1<=st.Next/\st.Next<=s.kf+1
 book:1<=st.dw/\st.dw<=281474976710656
theorem QP{s:bg}(k:bq s)(st:bT):gz (jx 5000 s st) (Q_ s st):=by have f:=k.ids;simp only[jx,zds,ay,gz];rw[wr (x:=s.kf+1) (by omega) (by omega)];simp only[bz,bm,bI,bB,b_,GN];exact ⟨λa=>⟨λd=>⟨λe=>⟨a,d,e⟩,λh=>h.book⟩,λd h=>d h.next⟩,λa h=>a h.now⟩
def jb(x:Int):Int:=if x=3 then 1 else if x=4 then 2 else if x=5\/x=6 then 3 else 0
theorem EQ(x:Int):0<=jb x/\jb x<=3:=by unfold jb;split <;> (try split) <;> (try split) <;> omega
theorem extra_ok(x:Int):oT 5000 x=some (jb x):=by
 simp only[oT,WX,ay,nD,gG]
 grind [jb]
structure gq (s:bg) (st:bT) (j:aJ):Prop where
 ok:gj j
 next:j.Id<st.Next
 user:j.cw<s.aU
 queue:j.Queue<s.aq.length
 born:j.cT<=st.aP
 start:j.Start<=st.aP
 fin:j.End<=st.aP
 version:j.aL<=s.aI+jb j.State
def JK(l:List aJ):Nat->Int
 |0=>0
 |i+1=>((l[i]?).map (·.Id)).getD 0
theorem xk{l:List aJ}{i:Nat}(h:i<l.length):JK l (i+1)=l[i].Id:=by simp[JK,h]
structure dz (s:bg) (st:bT):Prop where
 len:(st.ah.length:Int)<=s.ah
 each:∀j∈st.ah,gq s st j
 bL:bZ st.ah
theorem Sw{s:bg}{st:bT}(h:(st.ah.length:Int)<=s.ah)(g:∀i (h:i<st.ah.length),gq s st st.ah[i]/\JK st.ah i<st.ah[i].Id):dz s st:=
 ⟨h,λj a=>by grind [List.getElem_of_mem],λi hi=>by grind [xk]⟩
theorem dz.cO{s:bg}{st:bT}(h:dz s st)(i:Nat)(hi:i<st.ah.length):gq s st st.ah[i]/\JK st.ah i<st.ah[i].Id:=by
 refine ⟨h.each _ (bH hi),?_⟩
 match i,hi with
 |0,hi=>have:=(h.each _ (bH hi)).ok.id;grind [JK]
 |i+1,hi=>rw[xk (by omega)];exact h.bL i hi
theorem dz.ids{s:bg}{st:bT}(h:dz s st):∀j∈st.ah,0<=j.Id/\j.Id<=1048576:=λj i=>by have:=(h.each j i).ok.id;omega
theorem max3{a b c n:Int}:(if c > (if b > a then b else a) then c else (if b > a then b else a)) > n↔a > n\/b > n\/c > n:=by omega
theorem jobs_ok{s:bg}(k:bq s){st:bT}(n:lI s st):gz (sL 5000 s st) (dz s st):=by
 have y:=k.uV;have hl:=n.bj;simp only[sL,fN,extra_ok,ay];rw[gz,bz];refine ⟨λh=>de λq=>?_,λp=>?_⟩
 ·have:=q.len
  grind
 ·simp only[bB] at p;refine jC st.ah.length (λi x=>x=(JK st.ah i,(i:Int))/\∀j (h:j<st.ah.length),j<i->gq s st st.ah[j]/\JK st.ah j<st.ah[j].Id) (λi x f hi e t=>?_) (λx f e=>?_) ⟨rfl,λj h g=>by omega⟩ (by omega)
  ·obtain ⟨rfl,m⟩:=e;simp only[cX hi,if_true,cf hi,ay,bY (show i<1000000 by omega)];refine (Ch _).bind λr d=>?_;rw[bz];refine ⟨λh=>de λq=>?_,λh=>?_⟩
   ·have a:=q.cO i hi;have z:=d.2 a.1.ok;have A:=a.1.next
    grind
   ·simp only[gG,bB,not_or,iF,oO] at h;have a:=d.1 h.1.1;rw[bz];refine ⟨λh=>de λq=>?_,λu=>?_⟩
    ·have a:=(q.cO i hi).1;have:=a.user;have:=a.queue
     grind
    ·simp only[gG,bB,not_or] at u;rw[bz];refine ⟨λh=>?_,λv=>?_⟩
     ·refine de λq=>?_;have a:=(q.cO i hi).1;have:=a.born;have:=a.start;have:=a.fin
      grind
     ·simp only[bB,max3] at v;have E:=EQ st.ah[i].State;rw[wr (x:=s.aI+jb _) (by omega) (by omega),bz];refine ⟨λh=>de λq=>?_,λw=>t _ ⟨by rw[xk hi],λj F l=>?_⟩⟩
      ·have a:=(q.cO i hi).1.version
       grind
      ·simp only[bB] at w;rcases YH (yCy.1 l) with g | g
       ·simp_all
       ·subst g;exact ⟨⟨a,by omega,by omega,by omega,by omega,by omega,by omega,by omega⟩,by omega⟩
  ·obtain ⟨rfl,m⟩:=e;simp only[eU,b_,cA];exact tj (Sw (by omega) λi hi=>m i hi hi)
structure WaitsIn (s:bg) (st:bT) (j:aJ):Prop where
 fits:jg 5000 s j.Queue j.aK j.aw=some true
 after:∀d∈j.aF,∃i∈st.ah,i.Id=d.aW
def Iw(s:bg)(st:bT)(j:aJ):Prop:=j.State<5->WaitsIn s st j
theorem QQ{s:bg}(k:bq s){st:bT}(n:lI s st)(J:dz s st):gz (jD 5000 s st) (∀j∈st.ah,Iw s st j):=by
 have hl:=n.bj;simp only[jD,fN,WX,ay];refine Ra st.ah (Iw s st) _ (λh=>h) (λi f hi Q p t=>?_) (λf h=>?_) (by omega)
 ·simp only[cX hi,if_true,cf hi,ay,bY (show i<1000000 by omega)];have a:=J.each _ (bH hi);have x:=a.ok.state.st;rw[bz];refine ⟨λh=>p λhs=>?_,λh=>?_⟩
  ·grind
  ·simp only[gG,nD,not_or] at h;have hs:st.ah[i].State<5:=by omega
   obtain ⟨b,u,A⟩:=Ta n.spec k (q:=st.ah[i].Queue) (m:=st.ah[i].aK) a.ok.need a.ok.o_;rw[u,ay,bz];refine ⟨λhb=>?_,λhb=>?_⟩
   ·rw[bm];refine t λw=>?_;have:=(w hs).fits
    simp_all
   ·simp only[iF,oO] at hb;subst hb;have E:=a.ok.mF;refine yE st.ah[i].aF (λ_ d=>∃j∈st.ah,j.Id=d.aW) (λm g e v y=>?_) (λg v=>?_) (by omega)
    ·simp only[cX e,if_true,cf e,ay,bY (show m<1000000 by omega)];have F:=a.ok.after _ (bH e);have z:=a.ok.id;refine (Sv (by omega) J.bL (id:=st.ah[i].aF[m].aW) (by omega) J.ids).bind λr l=>?_;rw[bz];refine ⟨λhb=>?_,λhb=>y ?_⟩
     ·rw[bm];refine t λw=>?_;have:=l.1.2 ((w hs).after _ (bH e))
      simp_all
     simp_all
    ·simp only[eU,b_,cA];exact p λ_=>⟨u,Er v⟩
 ·simp only[eU,b_,cA];exact tj h
structure Oj (s:bg) (st:bT):Prop where
 len:(st.jA.length:Int)=s.aU
 use:∀x∈st.jA,0<=x/\x<=1099511627776
 qlen:st.aB.aq.length=s.aq.length
 nodes:0<=st.aB.aj/\st.aB.aj<=281474976710656
 stamps:∀x∈st.aB.aq,0<=x/\x<=281474976710656
theorem Mg(l:List Int)(hl:l.length<=300):gz (oS 5000 l) (∀x∈l,0<=x/\x<=1099511627776):=by
 simp only[oS];refine Ra l (λx=>0<=x/\x<=1099511627776) _ (λh=>h) (λi f hi Q a d=>?_) (λf h=>?_) (by omega)
 ·simp only[cX hi,if_true,cf hi,ay,bY (show i<1000000 by omega),bz,bm,gG,bB]
  grind
 ·simp only[eU,b_,cA];exact tj h
theorem ZW{s:bg}{st:bT}(j:lI s st):gz (oM 5000 s st) (Oj s st):=by
 have l:=j.use;have m:=j.stamps;simp only[oM,fN,zds,ay,if_true];rw[gz,bz];refine ⟨λh=>de λq=>?_,λh=>?_⟩
 ·simp only[JY,ne_eq] at h;exact h q.len
 ·simp only[JY,ne_eq,Wh] at h;refine (Mg st.jA (by omega)).bind λr k=>?_;rw[bz];refine ⟨λa=>de λq=>?_,λa=>?_⟩
  ·have:=k.2 q.use
   simp_all
  ·simp only[iF,oO] at a;rw[bz];refine ⟨λd=>de λq=>?_,λd=>?_⟩
   ·simp only[JY,ne_eq] at d
    grind [Oj.qlen]
   ·simp only[JY,ne_eq,Wh] at d;rw[bz];refine ⟨λe=>de λq=>?_,λe=>?_⟩
    ·grind [Oj.nodes]
    ·simp only[iF,oO,bI,bB] at e;refine Ra st.aB.aq (λx=>0<=x/\x<=281474976710656) _ (λh=>h.stamps) (λi f hi Q n p=>?_) (λf g=>?_) (by omega)
     ·simp only[cX hi,if_true,cf hi,ay,bY (show i<1000000 by omega),bz,bm,iF,yB5,yBi]
      grind
     ·simp only[eU,b_,cA];exact tj ⟨h,k.1 a,by omega,e,g⟩
theorem ref_use(l:List Int)(n:Int)(hl:l.length<=300):gz (ze3 5000 l n) ((l.length:Int)=n/\∀x∈l,0<=x/\x<=1099511627776):=by
 simp only[ze3,fN];refine Ra l (λx=>0<=x/\x<=1099511627776) _ (λh=>h.2) (λi f hi Q a d=>?_) (λf h=>?_) (by omega)
 ·simp only[cX hi,if_true,cf hi,ay,bY (show i<1000000 by omega),bz,bm,bB]
  grind
 ·simp only[eU,b_,cA,bm,nD]
  simp_all
theorem JJ(x:Int):gz (zbm 5000 x) (0<=x/\x<=281474976710656):=by simp only[zbm,gz,bm,bI,bB,ge_iff_le]
structure dL (l:List bP):Prop where
 ne:0<l.length
 inc:∀i (h:i+1<l.length),l[i].At<l[i+1].At
 each:∀s∈l,(0<=s.At/\s.At<=281474976710656)/\aO s.cz
theorem dL.lt{l:List bP}(h:dL l):∀{i j:Nat}(s:i<j)(u:j<l.length),l[i].At<l[j].At:=by
 intro i j s u;induction j with
 |zero=>omega
 |succ j ih=>
  have x:=h.inc j u
  grind
theorem dL.le{l:List bP}(h:dL l){i j:Nat}(s:i<=j)(x:j<l.length):l[i].At<=l[j].At:=by
 rcases YH s with u | u
 ·have:=h.lt u x;omega
 simp_all
theorem dL.idx{l:List bP}(h:dL l){i j:Nat}(hi:i<l.length)(u:j<l.length)(e:l[i].At=l[j].At):i=j:=by
 rcases WI i j with s | s | s
 ·have:=h.lt s u;omega
 ·exact s
 ·have:=h.lt s hi;omega
theorem dL.inj{l:List bP}(h:dL l){a b:bP}(s:a∈l)(hb:b∈l)(e:a.At=b.At):a=b:=by
 obtain ⟨i,hi,rfl⟩:=jc s;obtain ⟨j,u,rfl⟩:=jc hb;have:=h.idx hi u e
 simp_all
def IJ(l:List bP):Int:=l.foldl (λ_ s=>s.At) (-1)
theorem z_{l:List bP}{i:Nat}(h:i<l.length):IJ (l.take (i+1))=l[i].At:=by rw[GK h,IJ,List.foldl_append];rfl
def PH(l:List bP)(i:Nat)(s:bP):Prop:=IJ (l.take i)<s.At/\s.At<=281474976710656/\aO s.cz
theorem stOk_of{l:List bP}(d:0<l.length)(h:∀i (hi:i<l.length),PH l i l[i]):dL l:=by
 have a:∀i (h:i+1<l.length),l[i].At<l[i+1].At:=λi hi=>by
  have:=(h (i+1) hi).1
  grind [z_]
 have e:∀i (hi:i<l.length),0<=l[i].At:=by
  intro i;induction i with
  |zero=>intro hi;have:=(h 0 hi).1;grind [IJ]
  |succ i ih=>grind
 exact ⟨d,a,Er (A:=λs=>(0<=s.At/\s.At<=281474976710656)/\aO s.cz) λi hi=>⟨⟨e i hi,(h i hi).2.1⟩,(h i hi).2.2⟩⟩
theorem dL.cO{l:List bP}(h:dL l)(i:Nat)(hi:i<l.length):PH l i l[i]:=by
 have e:=h.each _ (bH hi);refine ⟨?_,e.1.2,e.2⟩
 match i,hi with
 |0,hi=>grind [IJ]
 |i+1,hi=>rw[z_ (by omega)];exact h.inc i hi
theorem M_(l:List bP)(hl:l.length<=1000):gz (zem 5000 l) (dL l):=by
 unfold zem;refine jC l.length (λi x=>x=(IJ (l.take i),(i:Int))/\∀j (m:j<l.length),j<i->PH l j l[j]) (λi x f hi d n=>?_) (λx f d=>?_) ⟨rfl,λj _ h=>by omega⟩ (by omega)
 ·obtain ⟨rfl,p⟩:=d;simp only[fN];rw[if_pos (cX hi),cf hi,ay,bz];refine ⟨λh=>?_,λh=>?_⟩
  ·rw[if_pos trivial];refine de λq=>?_;have:=q.cO i hi;simp only[gG,bB] at h;have:=this.1;have:=(q.cO i hi).2.1;omega
  ·refine (Vj _).bind λr a=>?_;rw[bz];refine ⟨λe=>de λq=>?_,λe=>?_⟩
   ·have:=a.2 (q.cO i hi).2.2
    simp_all
   ·simp only[iF,oO] at e;simp only[gG,bB,not_or] at h;rw[bY (show i<1000000 by omega)];refine n _ ⟨by rw[z_ hi],λj m g=>?_⟩;rcases YH (yCy.1 g) with k | k
    ·simp_all
    ·subst k;exact ⟨by omega,by omega,a.1 e⟩
 ·obtain ⟨rfl,p⟩:=d;simp only;rw[if_neg (by simp),bm,bB]
  grind [stOk_of,dL.ne]
theorem jG{l:List bP}(hl:l.length<=1000)(h:dL l):zem 5000 l=some true:=by
 obtain ⟨r,e,a⟩:=M_ l hl
 simp_all
structure Idx (l:List bP) (t:Int) (k:Nat):Prop where
 le:k<=l.length
 lo:∀i (h:i<l.length),i<k->l[i].At<=t
 hi:∀i (h:i<l.length),k<=i->t<l[i].At
theorem zcV{l:List bP}(hl:l.length<=1000)(hs:dL l)(t:Int):bS (fU 5000 l t) λr=>∃k,Idx l t k/\r=(k:Int)-1:=by
 unfold fU;rw[jT];refine lpM (λx=>∃i j:Nat,x=((i:Int),(j:Int))/\i<=j/\j<=l.length/\(∀k (h:k<l.length),k<i->l[k].At<=t)/\(∀k (h:k<l.length),j<=k->t<l[k].At)) (λx=>(x.2-x.1).toNat) (λx f q e=>?_) ⟨0,l.length,rfl,by omega,by omega,λk h hk=>by omega,λk h hk=>by omega⟩ (by omega);obtain ⟨i,j,rfl,s,g,m,n⟩:=q;rw[bz];dsimp only;refine ⟨λh=>?_,λh=>?_⟩
 ·simp only[bB] at h;rw[mid (by omega)];have p:(i+j) / 2<l.length:=by omega
  rw[cf p,ay,ay,bz];refine ⟨λd=>?_,λd=>?_⟩
  ·simp only[iF,yBi] at d;rw[bY (by omega)];refine e _ ⟨(i+j) / 2+1,j,rfl,by omega,g,λk hk a=>?_,n⟩ (by omega);have:=hs.le (show k<=(i+j) / 2 by omega) p;omega
  ·simp only[iF,yBi] at d;refine e _ ⟨i,(i+j) / 2,rfl,by omega,by omega,m,λk hk a=>?_⟩ (by omega);have:=hs.le a hk;omega
 ·simp only[bB] at h;have:i=j:=by omega
  subst this;simp only[bm];exact ⟨i,⟨g,m,n⟩,by grind [wr]⟩
theorem Idx.pos{l:List bP}{t:Int}{k:Nat}(h:Idx l t k)(hs:dL l)(i:(l[0]'hs.ne).At<=t):0<k:=by
 rcases Nat.eq_zero_or_pos k with e | e
 ·subst e;have:=h.hi 0 hs.ne (cN _);omega
 omega
def zc(l:List bP)(t:Int)(r:aE):Prop:=∃s∈l,s.At<=t/\(∀a∈l,a.At<=t->a.At<=s.At)/\s.cz=r
theorem zc.CB{l:List bP}(hs:dL l){t:Int}{r j:aE}(h:zc l t r)(u:zc l t j):r=j:=by obtain ⟨s,x,F,G,rfl⟩:=h;obtain ⟨z,i,A,E,rfl⟩:=u;have:s=z:=hs.inj x i (by grind);rw[this]
theorem zc.ok{l:List bP}(hs:dL l){t:Int}{r:aE}(h:zc l t r):aO r:=by obtain ⟨s,i,_,_,rfl⟩:=h;exact (hs.each s i).2
theorem Idx.vat{l:List bP}{t:Int}{k:Nat}(h:Idx l t (k+1))(hs:dL l)(hk:k<l.length):zc l t l[k].cz:=by
 refine ⟨l[k],bH hk,h.lo k hk (by omega),λj TI s=>?_,rfl⟩;obtain ⟨i,hi,rfl⟩:=jc TI;by_cases q:i<=k
 ·exact hs.le q hk
 ·have:=h.hi i hi (by omega);omega
structure GY (L:List aE) (r:aE):Prop where
 le:∀v∈L,∀c,cmp c r<=cmp c v
 cO:∀c,∃v∈L,cmp c v=cmp c r
def uU(a b:aE):aE:={ bG:=if b.bG<a.bG then b.bG else a.bG,Mem:=if b.Mem<a.Mem then b.Mem else a.Mem,bK:=if b.bK<a.bK then b.bK else a.bK,bM:=if b.bM<a.bM then b.bM else a.bM }
theorem Iy(c:Nat)(a b:aE):cmp c (uU a b)=if cmp c b<cmp c a then cmp c b else cmp c a:=by match c with | 0=>rfl | 1=>rfl | 2=>rfl | _+3=>rfl
theorem YU(a b:aE):zcU 5000 a b=some (uU a b):=by
 have d:∀x y:Int,zcd 5000 x y=some (if y<x then y else x):=λx y=>by
  unfold zcd
  grind
 simp only[zcU,d,ay,uU]
theorem GY.one(v:aE):GY [v] v:=⟨λw i c=>by simp_all,λc=>⟨v,by simp,rfl⟩⟩
theorem GY.add{L:List aE}{r:aE}(h:GY L r)(v:aE):GY (L++[v]) (uU r v):={
 le:=λw hw c=>by
  rw[Iy];rcases kB.1 hw with hw | hw
  ·have:=h.le w hw c;omega
  grind
 cO:=λc=>by
  rw[Iy];split
  ·simp_all
  ·obtain ⟨w,hw,e⟩:=h.cO c;grind }
structure Rz (V:Int->aE->Prop) (a b:Int) (r:aE):Prop where
 le:∀t v,a<=t->t<b->V t v->∀c,cmp c r<=cmp c v
 cO:∀c,∃t v,a<=t/\t<b/\V t v/\cmp c v=cmp c r
theorem Rz.CB{V:Int->aE->Prop}{a b:Int}{r u:aE}(h:Rz V a b r)(x:Rz V a b u):r=u:=dX λc=>by obtain ⟨t,v,z,A,E,e⟩:=h.cO c;obtain ⟨F,G,i,j,s,K⟩:=x.cO c;have:=h.le F G i j s c;have:=x.le t v z A E c;omega
theorem Rz.iff{V W:Int->aE->Prop}{a b:Int}{r:aE}(h:Rz V a b r)(u:∀t v,a<=t->(V t v↔W t v)):Rz W a b r:=
 ⟨λt v i j s=>h.le t v i j ((u t v i).2 s),λc=>by obtain ⟨t,v,i,j,s,e⟩:=h.cO c;grind⟩
theorem jY{α:Type}{l:List α}{i:Nat}(h:i<=l.length):slice? l (i:Int) (l.length:Int)=some (l.drop i):=by
 unfold slice?
 simp_all
theorem Nl{l:List bP}(hl:l.length<=1000)(hs:dL l){a b:Int}(y:(l[0]'hs.ne).At<=a)(p:a<b):bS (oW 5000 l a b) (Rz (zc l) a b):=by
 unfold oW;simp only[fN];rw[jG hl hs,ay,if_neg (by simp)];rw[show (0:Int)=((0:Nat):Int) from rfl,cf hs.ne,ay,if_neg (by simp_all)];refine (zcV hl hs a).bind λr q=>?_;obtain ⟨k,hk,rfl⟩:=q;have S:=hk.pos hs y;have z:=hk.le;obtain ⟨m,rfl⟩:∃m,k=m+1:=⟨k-1,by omega⟩;rw[show ((m+1:Nat):Int)-1=(m:Int) by omega,cf (show m<l.length by omega),ay,bY (by omega),jY (by omega),ay];have fin:∀(n:Nat)(v:aE),n<=(l.drop (m+1)).length->(∀(j:Nat)(h:j<(l.drop (m+1)).length),j<n->(l.drop (m+1))[j].At<b)->(∀(j:Nat)(h:j<(l.drop (m+1)).length),n<=j->b<=(l.drop (m+1))[j].At) ->
   GY (l[m].cz::((l.drop (m+1)).take n).map (·.cz)) v->Rz (zc l) a b v:=λn v T A U d=>by
  have len:(l.drop (m+1)).length=l.length-(m+1):=yCb ..;refine ⟨λt w W E hw c=>?_,λc=>?_⟩
  ·obtain ⟨s,F,Y,G,rfl⟩:=hw;obtain ⟨i,hi,rfl⟩:=jc F;have Z:=G l[m] (bH _) (by have:=hk.lo m (by omega) (by omega);omega);refine d.le _ ?_ c;by_cases e:i=m
   ·simp_all
   ·have K:m<i:=by
     rcases WI i m with h | h | h
     ·have:=hs.lt h (by omega);omega
     ·omega
     omega
    have L:i-(m+1)<n:=by grind
    refine pp _ (iP.2 ⟨l[i],?_,rfl⟩)
    grind [List.mem_iff_getElem]
  ·obtain ⟨w,hw,e⟩:=d.cO c;rcases gE.1 hw with rfl | hw
   ·exact ⟨a,_,LU _,p,hk.vat hs (by omega),e⟩
   ·obtain ⟨s,TI,rfl⟩:=iP.1 hw;obtain ⟨j,g,rfl⟩:=KW.1 TI;rw[Dj] at g;rw[RW] at e TI;have hb:=A j (by omega) (by omega);rw[yCo] at e hb;have ha:=hk.hi (m+1+j) (by omega) (by omega);refine ⟨l[m+1+j].At,_,by omega,hb,⟨l[m+1+j],bH _,LU _,λs' _ h=>h,rfl⟩,e⟩
 refine jC (l.drop (m+1)).length (λi x=>∃v:aE,x=((i:Int),v.bG,v.Mem,v.bK,v.bM)/\GY (l[m].cz::((l.drop (m+1)).take i).map (·.cz)) v/\∀j (h:j<(l.drop (m+1)).length),j<i->(l.drop (m+1))[j].At<b) (λi x f hi u q=>?_) (λx f u=>?_)
  ⟨l[m].cz,rfl,GY.one _,λj _ h=>by omega⟩ (by grind)
 ·obtain ⟨v,rfl,d,hb⟩:=u;have M:m+1+i<l.length:=by grind
  dsimp only;rw[if_pos (cX hi),cf hi,ay,bz];refine ⟨λh=>?_,λh=>?_⟩
  ·simp only[bB] at h;rw[bm];refine fin i v (yCx hi) hb (λj g N=>?_) d;rw[yCo] at h ⊢;have:=hs.le (show m+1+i<=m+1+j by omega) (by grind);omega
  ·simp only[bB] at h;rw[show ∀b,Cb 5000 ({ bG:=v.bG,Mem:=v.Mem,bK:=v.bK,bM:=v.bM }:aE) b=some (uU v b) from λb=>rfl,ay,bY (show i<1000000 by omega)];refine q _ ⟨uU v (l.drop (m+1))[i].cz,rfl,?_,λj g O=>?_⟩
   ·rw[GK hi,yBC,<-LH];exact d.add _
   grind
 ·obtain ⟨v,rfl,d,hb⟩:=u;dsimp only;rw[if_neg (by simp),bm];exact fin _ v (cN _) (λj g h=>hb j g h) (λj g h=>by omega) d
structure Kept (l r:List bP):Prop where
 ok:dL r
 len:r.length<=l.length
 first:∀(h:0<l.length)(h':0<r.length),r[0].At=l[0].At
 sub:∀s∈r,s∈l
 val:∀t v,zc l t v->zc r t v
theorem eG{l:List bP}{i:Nat}(hi:i<l.length){s:bP}:s∈l.take (i+1)↔s∈l.take i\/s=l[i]:=by rw[GK hi,kB,zq]
theorem zc.take{l:List bP}{i:Nat}(hi:i<l.length)(hs:dL l){t:Int}{v:aE}(h:zc (l.take (i+1)) t v):(l[i].At<=t/\v=l[i].cz)\/(t<l[i].At/\zc (l.take i) t v):=by
 obtain ⟨s,x,z,u,rfl⟩:=h;rw[GK hi] at x u;by_cases q:l[i].At<=t
 ·left;refine ⟨q,?_⟩;have A:=u l[i] (yBD _ (zq.2 rfl)) q;rcases kB.1 x with h | h
  ·obtain ⟨j,E,rfl⟩:=KW.1 h;rw[Dj] at E;rw[RW] at A ⊢;have:=hs.lt (show j<i by omega) hi;omega
  simp_all
 ·right;refine ⟨by omega,s,?_,z,λF G=>u F (yBI _ G),rfl⟩
  grind
theorem ZT{l:List bP}(hs:dL l){s:bP}(h:∀x∈l,x.At<s.At)(d:(0<=s.At/\s.At<=281474976710656)/\aO s.cz):dL (l++[s]):=by
 have:=hs.ne;refine ⟨by simp,λi hi=>?_,λx a=>?_⟩
 ·rw[Br,xAe] at hi;rw[yBY (show i<l.length by omega)];by_cases e:i+1<l.length
  ·rw[yBY e];exact hs.inc i e
  simp_all
 ·rcases kB.1 a with a | a
  ·exact hs.each x a
  simp_all
theorem NN{l:List bP}(hl:l.length<=1000)(hs:dL l):bS (py 5000 l) (Kept l):=by
 have m:=hs.ne;unfold py;rw[jG hl hs,ay,if_neg (by simp)];rw[show (0:Int)=((0:Nat):Int) from rfl,cf m,ay];rw[show slice? l 1 (l.length:Int)=some (l.drop 1) from jY m,ay];have N:(l.drop 1).length=l.length-1:=yCb ..;refine jC (l.drop 1).length (λi x=>x.1=(i:Int)/\Kept (l.take (i+1)) x.2/\∃(h:0<x.2.length)(hi:i<l.length),x.2[x.2.length-1].cz=l[i].cz) (λi x f hi r O=>?_) (λx f r=>?_) ?_ (by omega)
 ·obtain ⟨y,a⟩:=x;obtain ⟨rfl,hk,g,z,d⟩:=r;dsimp only at hk g d ⊢;have k:i+1<l.length:=by omega
  have u:=hk.len;rw[Dj] at u;have F:(l.drop 1)[i]=l[i+1]:=by simp_all
  simp only[fN];rw[if_pos (cX hi),cf hi,ay,F,wr (x:=(a.length:Int)-1) (by omega) (by omega),show (a.length:Int)-1=((a.length-1:Nat):Int) by omega,cf (show a.length-1<a.length by omega),ay,bY (show i<1000000 by omega),d];have n:∀x∈a,x.At<l[i+1].At:=λx r=>by have:=hk.sub x r;obtain ⟨j,A,rfl⟩:=KW.1 this;rw[Dj] at A;rw[RW];exact hs.lt (by omega) k
  rw[bz];refine ⟨λh=>?_,λh=>?_⟩
  ·rw[Dt (by grind),ay];have K:Kept (l.take (i+1+1)) (a++[l[i+1]]):=by
    refine ⟨ZT hk.ok n (hs.each _ (bH _)),by grind,λh w=>?_,λs TI=>?_,λt v p=>?_⟩
    ·have:=hk.first (by grind) g
     simp_all
    ·rcases kB.1 TI with q | q
     ·exact (eG k).2 (.inl (hk.sub s q))
     grind [eG]
    ·rcases p.take k hs with ⟨q,rfl⟩ | ⟨q,p⟩
     ·exact ⟨l[i+1],yBD _ (zq.2 rfl),q,λE w _=>by grind,rfl⟩
     ·obtain ⟨s,G,L,S,M⟩:=hk.val t v p;exact ⟨s,yBI _ G,L,λE w T=>by grind,M⟩
   simp_all
  ·have e:l[i+1].cz=l[i].cz:=by
    simp only[iF,oO] at h;simp only[bP.beq,bI,nD,gH] at h
    simp_all
   have K:Kept (l.take (i+1+1)) a:=by
    refine ⟨hk.ok,by grind,λh w=>?_,λs TI=>(eG k).2 (.inl (hk.sub s TI)),λt v p=>?_⟩
    ·have:=hk.first (by grind) g
     simp_all
    ·rcases p.take k hs with ⟨q,rfl⟩ | ⟨q,p⟩
     ·refine ⟨a[a.length-1],bH _,by grind,λE w _=>?_,by simp_all⟩;obtain ⟨j,A,rfl⟩:=jc w;exact hk.ok.le (by omega) (by omega)
     ·exact hk.val t v p
   simp_all
 ·obtain ⟨y,a⟩:=x;obtain ⟨rfl,hk,g,z,d⟩:=r;dsimp only at hk ⊢;rw[if_neg (by simp),bm]
  grind
 ·have e:l.take 1=[l[0]]:=by grind [List.take_succ_eq_append_getElem]
  refine ⟨rfl,?_,by simp,m,rfl⟩;rw[Ri,e];refine ⟨⟨by simp,λi h=>by simp at h,λs h=>by simp at h;subst h;exact hs.each _ (bH _)⟩,by simp,λ_ _=>rfl,λs h=>h,λt v h=>h⟩
theorem dL.pw{l:List bP}(h:dL l):l.Pairwise λa b=>a.At<b.At:=yBa.2 λi j hi u s=>h.lt s u
theorem stOk_pw{l:List bP}(d:0<l.length)(h:l.Pairwise λa b=>a.At<b.At)(e:∀s∈l,(0<=s.At/\s.At<=281474976710656)/\aO s.cz):dL l:=
 ⟨d,λi hi=>yBa.1 h i (i+1) (by omega) hi (by omega),e⟩
theorem zc.ex{l:List bP}(hs:dL l){t:Int}(x:(l[0]'hs.ne).At<=t):∃v,zc l t v:=by
 have:∀n,0<n->n<=l.length->∃v,zc (l.take n) t v:=by
  intro n;induction n with
  |zero=>omega
  |succ n ih=>
   intro _ K;rcases Nat.eq_zero_or_pos n with rfl | z
   ·refine ⟨l[0].cz,l[0],?_,x,λu i _=>?_,rfl⟩
    ·grind [eG]
    ·rcases (eG (show 0<l.length by omega)).1 i with i | e
     ·grind
     simp_all
   ·obtain ⟨v,s,A,E,M,F⟩:=ih z (by omega);by_cases q:l[n].At<=t
    ·refine ⟨l[n].cz,l[n],(eG (by omega)).2 (.inr rfl),q,λu i _=>?_,rfl⟩;rcases (eG (show n<l.length by omega)).1 i with i | e
     ·obtain ⟨j,G,rfl⟩:=KW.1 i;rw[Dj] at G;rw[RW];exact hs.le (by omega) (by omega)
     simp_all
    ·refine ⟨v,s,(eG (by omega)).2 (.inl A),E,λu i O=>?_,F⟩
     grind [eG]
 have:=this l.length hs.ne (cN _)
 simp_all
theorem insS_ok{l:List bP}(hl:l.length<=2000)(x:bP){k:Nat}(hk:k<=l.length):zaZ 5000 l [x] (k:Int)=some (l.take k++[x]++l.drop k):=by
 unfold zaZ zaE;rw[jY hk,ay,if_neg (by simp)];by_cases e:k=l.length
 ·subst e;rw[if_pos (by simp),Dt (by grind),ay];simp[orE]
 ·rw[if_neg (by grind)];unfold orE OH
  grind
structure CutOk (l:List bP) (t:Int) (r:List bP):Prop where
 ok:dL r
 len:r.length<=l.length+1
 first:∀(h:0<l.length)(h':0<r.length),r[0].At=l[0].At
 val:∀u v,zc l u v->zc r u v
 cO:∃s∈r,s.At=t
 Um:∀s∈l,s∈r
theorem lZ{l:List bP}(hl:l.length<=1000)(hs:dL l){t:Int}(A:(l[0]'hs.ne).At<=t)(T:t<=281474976710656):bS (rB 5000 l t) (CutOk l t):=by
 unfold rB;refine (zcV hl hs t).bind λr E=>?_;obtain ⟨k,hk,rfl⟩:=E;have U:=hk.pos hs A;have i:=hk.le;obtain ⟨m,rfl⟩:∃m,k=m+1:=⟨k-1,by omega⟩;have d:m<l.length:=by omega
 unfold za3;rw[show ((m+1:Nat):Int)-1=(m:Int) by omega,GP (by omega),ay,cf d,ay,bz];refine ⟨λh=>?_,λh=>?_⟩
 ·simp only[nD] at h;exact bm.2 ⟨hs,by omega,λ_ _=>rfl,λu v h=>h,⟨_,bH d,h⟩,λs h=>h⟩
 ·simp only[nD] at h;have F:=hk.lo m d (by omega);have W:=hs.each _ (bH d);rw[ay,bY (show m<1000000 by omega),insS_ok (by omega) _ i,ay,bm];generalize Y:({ At:=t,cz:=l[m].cz }:bP)=x;have G:x.At=t:=by grind
  have K:x.cz=l[m].cz:=by grind
  have Z:∀s∈l.take (m+1),s.At<t:=λs TI=>by obtain ⟨j,e,rfl⟩:=KW.1 TI;rw[Dj] at e;rw[RW];have:=hs.le (show j<=m by omega) d;omega
  have hB:∀s∈l.drop (m+1),t<s.At:=λs TI=>by obtain ⟨j,e,rfl⟩:=KW.1 TI;rw[yCb] at e;rw[yCo];exact hk.hi _ (by omega) (by omega)
  have n:l=l.take (m+1)++l.drop (m+1):=(OJ ..).symm;have f:=hs.pw;rw[n] at f;obtain ⟨p1,L,p3⟩:=Py.1 f;have mem:∀s,s∈l.take (m+1)++[x]++l.drop (m+1)↔s∈l\/s=x:=λs=>by
   constructor
   ·grind
   grind
  refine ⟨stOk_pw (by grind) (Py.2 ⟨Py.2 ⟨p1,by simp,λa M b hb=>?_⟩,L,λa M b hb=>?_⟩) λs h=>?_,?_,λh p=>?_,λu v N=>?_,⟨x,(mem x).2 (.inr rfl),G⟩,λs h=>(mem s).2 (.inl h)⟩
  ·grind
  ·grind
  ·rcases (mem s).1 h with h | rfl
   ·exact hs.each s h
   grind
  ·grind
  ·grind
  ·obtain ⟨s,g,w,O,rfl⟩:=N;by_cases q:t<=u
   ·have S:=O l[m] (bH d) (by omega);by_cases q2:s.At<t
    ·have:s=l[m]:=by
      obtain ⟨j,e,rfl⟩:=jc g;have:j<=m:=by
       rcases th m j with h | h
       ·have:=hk.hi j e (by omega);omega
       omega
      have:=hs.le this d;exact hs.inj g (bH d) (by omega)
     subst this;exact ⟨x,(mem x).2 (.inr rfl),by omega,λy p z=>by grind,K⟩
    ·exact ⟨s,(mem s).2 (.inl g),w,λy p z=>by grind,rfl⟩
   ·exact ⟨s,(mem s).2 (.inl g),w,λy p z=>by grind,rfl⟩
theorem Yl:kH=rB:=rfl
def wE(out:List bP)(need:aE)(a hi:Nat):List bP:=out.mapIdx λj s=>if a<=j/\j<hi then { At:=s.At,cz:=fy s.cz need } else s
theorem Ua{out:List bP}{need:aE}{a hi:Nat}:(wE out need a hi).length=out.length:=by simp[wE]
theorem kg{out:List bP}{need:aE}{a hi j:Nat}(h:j<(wE out need a hi).length):(wE out need a hi)[j]=if a<=j/\j<hi then { At:=(out[j]'(by grind [Ua])).At,cz:=fy (out[j]'(by grind [Ua])).cz need } else out[j]'(by grind [Ua]):=by grind [wE]
theorem wV{out:List bP}{need:aE}{a hi j:Nat}(h:j<(wE out need a hi).length):(wE out need a hi)[j].At=(out[j]'(by grind [Ua])).At:=by grind [kg]
theorem YI(out:List bP)(need:aE)(a:Nat):wE out need a a=out:=yCt Ua λj d e=>by rw[kg,if_neg (by omega)]
theorem YV{out:List bP}{need:aE}{a i:Nat}(h:a+i<out.length):(wE out need a (a+i)).set (a+i) { At:=out[a+i].At,cz:=fy out[a+i].cz need }=wE out need a (a+(i+1)):=yCt (by simp[Ua]) λj d f=>by
 rw[List.getElem_set];split
 ·rename_i e;subst e;rw[kg,if_pos ⟨by omega,by omega⟩]
 ·rw[kg,kg]
  grind
def s_(a b:aE):Prop:=∀c,cmp c a<=cmp c b
theorem subR_ok{a b:aE}(d:aO a)(hb:aO b)(h:s_ b a):aO (fy a b):=wW.2 λc=>by have:=wW.1 d c;have:=wW.1 hb c;have:=h c;rw[Cz];omega
structure RZ (l:List bP) (a b:Int) (need:aE) (r:List bP):Prop where
 ok:dL r
 len:r.length<=l.length+2
 first:∀(h:0<l.length)(h':0<r.length),r[0].At=l[0].At
 val:∀t v,zc l t v->zc r t (if a<=t/\t<b then fy v need else v)
theorem yW{l:List bP}(hl:l.length<=900)(hs:dL l){a b:Int}{need:aE}(L:aO need)(h0:(l[0]'hs.ne).At<=a)(ab:a<b)(hb:b<=281474976710656)
  (u:∀t v,a<=t->t<b->zc l t v->s_ need v):bS (nJ 5000 l a b need) λr=>r.2=0/\RZ l a b need r.1:=by
 unfold nJ zep;have w:=hs.ne;obtain ⟨rn,en,M⟩:=Vj need;have:=M.2 L;subst this;simp only[fN];rw[jG (by omega) hs,ay,if_neg (by simp),en,ay,if_neg (by simp)];rw[show (0:Int)=((0:Nat):Int) from rfl,cf w,ay,if_neg (by simp_all),Yl];rw[jT];refine (lZ (by omega) hs h0 (by omega)).bind λo1 c1=>?_;have W:=c1.ok.ne;have f1:=c1.first w W;have l1:=c1.len;refine (lZ (by omega) c1.ok (t:=b) (by omega) hb).bind λout g=>?_;have n2:=g.ok.ne;have f2:=g.first W n2;have l2:=g.len;obtain ⟨sa,N,ad⟩:=c1.cO;obtain ⟨d,m,af⟩:=jc (g.Um sa N);obtain ⟨sb,O,ak⟩:=g.cO;obtain ⟨e,he,eb⟩:=jc O;have aa:out[d].At=a:=by simp_all
 have bb:out[e].At=b:=by simp_all
 have val:∀t v,zc l t v->zc out t v:=λt v h=>g.val t v (c1.val t v h);have S:∀j (h:j<out.length),a<=out[j].At->out[j].At<b->aO (fy out[j].cz need):=λj h y A=>by obtain ⟨v,E⟩:=zc.ex hs (t:=out[j].At) (by omega);have:=(val _ _ E).CB g.ok ⟨out[j],bH h,LU _,λs' _ h=>h,rfl⟩;subst this;exact subR_ok (E.ok hs) L (u _ _ y A E)
 refine (zcV (by omega) g.ok a).bind λr p=>?_;obtain ⟨k,hk,rfl⟩:=p;have hp:=hk.pos g.ok (by omega);have an:=hk.le;have hm:k=d+1:=by
  rcases WI k (d+1) with h | h | h
  ·have:=hk.hi d m (by omega);omega
  ·exact h
  ·have:=hk.lo (k-1) (by omega) (by omega);have:=g.ok.lt (show d<k-1 by omega) (by omega);omega
 subst hm;have av:d<e:=by
  rcases WI d e with h | h | h
  ·exact h
  ·simp_all
  ·have:=g.ok.lt h m;omega
 rw[show ((d+1:Nat):Int)-1=(d:Int) by omega];have mid:∀j (h:j<out.length),d<=j->j<e->a<=out[j].At/\out[j].At<b:=λj h y A=>by have:=g.ok.le y h;have:=g.ok.lt A he;omega
 refine jC (e-d) (λi x=>x=(((d+i:Nat):Int),wE out need d (d+i))) (λi x f hi T p=>?_) (λx f T=>?_) (by rw[Nat.add_zero,YI]) (by omega)
 ·subst T;have n:d+i<out.length:=by omega
  obtain ⟨y,A⟩:=mid (d+i) n (by omega) (by omega);have F:(wE out need d (d+i))[d+i]'(by grind [Ua])=out[d+i]:=by rw[kg,if_neg (by omega)]
  dsimp only;rw[cf (show d+i<(wE out need d (d+i)).length by grind),ay,F,if_pos (by simp_all),ay];refine (XL (g.ok.each _ (bH n)).2 L).bind λr G=>?_;have z:=G.1.2 (S _ n y A);rw[if_neg (by simp[z]),Dw,G.2 z,bY (show d+i<1000000 by omega)]
  grind [YV]
 ·subst T;rw[show d+(e-d)=e by omega];dsimp only;rw[cf (show e<(wE out need d e).length by grind [Ua]),Dw,wV,if_neg (by simp_all)];have Y:dL (wE out need d e):=by
   refine ⟨by grind [Ua],λi h=>?_,λs h=>?_⟩
   ·rw[wV,wV];exact g.ok.inc i (by grind [Ua])
   ·obtain ⟨j,n,rfl⟩:=jc h;have K:=n;rw[Ua] at K;have ej:=g.ok.each _ (bH K)
    grind [kg]
  refine (NN (by grind [Ua]) Y).bind λr p=>?_;rw[bm,bm];have rl:=p.len;rw[Ua] at rl;refine ⟨rfl,p.ok,by grind,λh Z=>?_,λt v E=>p.val _ _ ?_⟩
  ·have:=p.first Y.ne Z
   grind [wV]
  ·obtain ⟨s,h1,h2,h3,rfl⟩:=val t v E;obtain ⟨j,n,rfl⟩:=jc h1;have U:j<(wE out need d e).length:=by grind [Ua]
   refine ⟨(wE out need d e)[j],bH U,by grind [wV],λs' Z ht=>?_,?_⟩
   ·grind [List.getElem_of_mem,wV]
   ·rw[kg];have ka:a<=t↔d<=j:=by
     constructor
     ·intro h;have:=h3 out[d] (bH m) (by omega);rcases th j d with q | q
      ·have:=g.ok.lt q m;omega
      omega
     ·intro h;have:=g.ok.le h n;omega
    have kb:t<b↔j<e:=by
     constructor
     ·intro h;rcases th j e with q | q
      ·exact q
      ·have:=g.ok.le q n;omega
     grind
    grind
end Go.Plain
end
