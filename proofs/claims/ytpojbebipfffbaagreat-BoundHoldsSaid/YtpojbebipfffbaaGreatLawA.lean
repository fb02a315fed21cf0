/- Lemmas. -/
import Derived.Test.YtpojbebipfffbaaGreatTyPure
import Derived.KernelRfl
import Derived.Laws.BitsLemmas
set_option linter.all false
open _root_ renaming Bool->Λ,Bool.or_eq_false_iff->Cv,ByteArray->Χ,Classical.not_not->G5,Int->Q,Int.ediv_nonneg->I6,Int.fdiv->π,List->Z,List.Pairwise.sublist->B4,List.Perm.append->H3,List.eq_nil_or_concat->B3,List.getElem_of_mem->ϑ,List.length->τ,List.replicate->μ,Nat->X,Option->Δ,Option.bind_some->ϔ,absurd->υ,Decidable.decide->Θ,Bool.false->Ι,if_neg->Κ,if_pos->Μ,if_true->Υ,ne_eq->fm,not_or->ϥ,Option.some->Y,Bool.true->W
open Go.IntKind (i64 u64)
section
namespace Go.Plain
open Go.Abs
instance glT:Gl:={ ok:=λ_ _=>True,mono:=λ_ _=>trivial }
theorem wr{x:Q}(a:-9223372036854775808<=x)(d:x<9223372036854775808):i64.wrap x=x:=by rw[IntKind.wrap_i64];omega
theorem bT{i:X}(h:i<1000000):i64.wrap ((i:Q)+1)=((i+1:X):Q):=by grind[wr]
def wp1{i:X}(h:i+1<1000000):i64.wrap (((i+1:X):Q)-1)=(i:Q):=by grind[wr]
theorem bW{α:Type}{l:Z α}{i:X}(h:i<l.length):aH l (i:Q)=Y l[i]:=by unfold aH;simp_all
theorem Bp{α:Type}{l:Z α}{x:Q}(d:0<=x)(h:x<l.length):∃a:x.toNat<l.length,aH l x=Y (l[x.toNat]'a):=by have a:x.toNat<l.length:=by{omega};refine⟨a,?_⟩;unfold aH;simp_all
theorem cK{i n:X}(h:i<n):Θ ((i:Q)<(n:Q))=W:=by simp_all
theorem eR{n:X}:Θ ((n:Q)<(n:Q))=Ι:=by simp
theorem zr{α:Type}{l m:Z α}(h:l.length+m.length<=1000000):cD l m=Y (l++m):=by unfold cD;simp_all
theorem BR{α:Type}{m:Z α}(h:m.length<=1000000):cD [] m=Y m:=by grind[zr]
theorem dZ{Ε R:Type}(r:Ε->Δ R)(b:(Ε->Δ R)->Δ R):jn r b=b r:=rfl
def bI{β:Type}(o:Δ β)(Η:β->Prop):Prop:=∃r,o=Y r/\Η r
abbrev gG(o:Δ Λ)(P:Prop):Prop:=bI o λb=>b=W↔P
section
variable{α β γ V:Type}{o:Δ α}{P Η:α->Prop}
theorem bI.mono(h:bI o P)(i:∀r,P r->Η r):bI o Η:=by obtain⟨r,j,s⟩:=h;exact⟨r,j,i r s⟩
def bI.bind{f:α->Δ β}{R:β->Prop}(h:bI o P)(i:∀r,P r->bI (f r) R):bI (o.bind f) R:=by obtain⟨r,rfl,j⟩:=h;simp_all
theorem aT{r:α}:bI (Y r) Η↔Η r:=by simp[bI]
def zfK{f:α->Δ β}{R:β->Prop}:bI (o.bind f) R↔bI o λr=>bI (f r) R:=by cases o<;>simp[bI]
theorem bo{c:Prop}[Decidable c]{a b:Δ α}:bI (if c then a else b) Η↔(c->bI a Η)/\(¬c->bI b Η):=by grind
theorem bI.eq{r:α}(h:bI o λx=>x=r):o=Y r:=by obtain⟨_,h,rfl⟩:=h;exact h
end
section
variable{Ε R α:Type}{b:(Ε->Δ R)->Ε->Δ R}{Η:R->Prop}
theorem fy(n:X)(Inv:X->Ε->Prop)(l:∀i x f,i<n->Inv i x->(∀d,Inv (i+1) d->bI (f d) Η)->bI (b f x) Η)(m:∀x f,Inv n x->bI (b f x) Η){g:Ε}(p:Inv 0 g){N:X}(q:n<N):bI (bE b N g) Η:=by have:∀k i x,i<=n->n<i+k->Inv i x->bI (bE b k x) Η:=by{intro k;induction k with|zero=>omega|succ k ih=>intro i x h r j;rcases yBn h with a|rfl;{exact l i x _ a j λd e=>ih (i+1) d a (by omega) e};exact m x _ j};grind
end
section
variable{R α:Type}{b:(Q->Δ R)->Q->Δ R}{Η:R->Prop}
theorem vH(l:Z α)(A:X->α->Prop)(k:∀i (f:Q->Δ R)(h:i<l.length),(∀j (a:j<l.length),j<i->A j l[j])->(A i l[i]->bI (f ((i+1:X):Q)) Η)->bI (b f (i:Q)) Η)(m:∀f,(∀j (a:j<l.length),A j l[j])->bI (b f (l.length:Q)) Η){N:X}(d:l.length<N):bI (bE b N 0) Η:=fy l.length (λi x=>x=(i:Q)/\∀j (a:j<l.length),j<i->A j l[j]) (λi x f n ⟨e,g⟩ p=>by grind) (λx f ⟨e,g⟩=>by simp_all) ⟨rfl,λj a h=>υ h (by omega)⟩ d
end
def Dw{α:Type}{l:Z α}{A:α->Prop}(h:∀j (d:j<l.length),A l[j]):∀a∈l,A a:=λa e=>by grind[ϑ]
def SQ{α:Type}{b:(Q->Δ Λ)->Q->Δ Λ}(l:Z α)(A:α->Prop)(P:Prop)(k:P->∀a∈l,A a)(d:∀(i:X)(f:Q->Δ Λ)(h:i<l.length)(Η:Λ->Prop),(A l[i]->bI (f ((i+1:X):Q)) Η)->(¬A l[i]->Η Ι)->bI (b f (i:Q)) Η)(e:∀f,(∀a∈l,A a)->gG (b f (l.length:Q)) P){N:X}(g:l.length<N):gG (bE b N 0) P:=vH l (λ_ a=>A a) (λi f h _ j=>d i f h _ j λm=>by grind) (λf h=>e f (Dw h)) g
structure iT (s:aZ):Prop where
 nodes:s.aj.length<=40
 parts:s.aK.length<=20
 fj:s.aq.length<=20
 part:∀p∈s.aK,p.length<=40
 queue:∀q∈s.aq,q.aV.length<=40
def few07(s:aZ):bI (zfM 5000 s) λr=>r=W->iT s:=by simp only[zfM,bo,aT];refine⟨by simp,λh=>?_⟩;simp only[fY,bF,ϥ,Q.not_lt]at h;obtain⟨⟨g,j⟩,k⟩:=h;refine vH s.aK (λ_ q=>q.length<=40) (λi f h _ a=>?_) (λf d=>?_) (by omega);{simp only[cK h,Υ,bW h,ay,bT (show i<1000000 by omega),bo,aT,bF];grind};simp only[eR,cf,cy];refine vH s.aq (λ_ q=>q.aV.length<=40) (λi f h _ a=>?_) (λf e=>?_) (by omega);{simp only[cK h,Υ,bW h,ay,bT (show i<1000000 by omega),bo,aT,bF];grind};simp only[eR,cf,cy,aT];exactλ_=>⟨by omega,by omega,by omega,Dw d,Dw e⟩
def few17(l:Z aE):bI (zfL 5000 l) λr=>r=W->l.length<=30/\∀j∈l,j.aD.length<=10:=by simp only[zfL,bo,aT];refine⟨by simp,λh=>?_⟩;simp only[bF]at h;refine vH l (λ_ q=>q.aD.length<=10) (λi f h _ d=>?_) (λf a=>?_) (by omega);{simp only[cK h,Υ,bW h,ay,bT (show i<1000000 by omega),bo,aT,bF];grind};simp only[eR,cf,cy,aT];exactλ_=>⟨by omega,Dw a⟩
structure iC (s:aZ)(st:bL):Prop where
 spec:iT s
 aL:st.ae.length<=300
 after:∀j∈st.ae,j.aD.length<=10
 bU:st.ah.length<=300
 bG:st.aA.length<=20
 use:st.dX.length<=20
 stamps:st.ar.aq.length<=20
 shares:∀a∈st.ah,a.am.length<=40
def iC.sh{s:aZ}{st:bL}(h:iC s st):∀a∈st.ah,a.am.length<=300:=λa i=>jJ (h.shares a i) (by decide)
def few23(s:aZ)(st:bL):bI (zdl 5000 s st) λr=>r=W->iC s st:=by simp only[zdl,dZ];refine(few07 s).bind λr d=>?_;simp only[Υ,aT,bo];refine⟨by simp,λh=>?_⟩;refine(few17 st.ae).bind λk a=>?_;simp only[iF,pO]at h;have g:=d h;simp only[bo,aT];refine⟨by simp,λh=>?_⟩;simp only[fY,bF,ϥ,Q.not_lt,iF,pO]at h;obtain⟨⟨⟨⟨h,l⟩,m⟩,n⟩,p⟩:=h;have e:=a h;refine vH st.ah (λ_ q=>q.am.length<=40) (λi f h _ d=>?_) (λf j=>?_) (by omega);{simp only[cK h,Υ,bW h,ay,bT (show i<1000000 by omega),bo,aT,bF];grind};simp only[eR,cf,cy,aT];exactλ_=>⟨g,jJ e.1 (by decide),e.2,by omega,by omega,by omega,by omega,Dw j⟩
def OT(lo a x:Q):Λ:=Θ (lo<=x)&&Θ (x<=a)
structure aR (r:aG):Prop where
 FA:0<=r.bX/\r.bX<=1048576
 mem:0<=r.Mem/\r.Mem<=1048576
 Hg:0<=r.b_/\r.b_<=1048576
 Jh:0<=r.ce/\r.ce<=1048576
def CO(r:aG):gG (zbd 5000 r) (aR r):=by simp only[zbd,zcw,aT,ay,bo,bM,bF,cf,Jd,gG];refine⟨λa=>⟨λd=>⟨λe=>⟨λf=>⟨a,d,e,f⟩,λh=>h.Jh⟩,λe h=>e h.Hg⟩,λd h=>d h.mem⟩,λa h=>a h.FA⟩
theorem at4x0{a b c d:Q}:aH [a,b,c,d] 0=Y a:=rfl
theorem at4x1{a b c d:Q}:aH [a,b,c,d] 1=Y b:=rfl
theorem at4x2{a b c d:Q}:aH [a,b,c,d] 2=Y c:=rfl
theorem at4x3{a b c d:Q}:aH [a,b,c,d] 3=Y d:=rfl
def lpN(l:Z Q)(lo d n:Q)(e:(l.length:Q)=n){E:Δ Λ}{Η:Λ->Prop}(k:¬(∀a∈l,lo<=a/\a<=d)->Η Ι)(g:(∀a∈l,lo<=a/\a<=d)->bI E Η)(j:l.length<5000):bI (bE (λ(f:Q->Δ Λ)(x:Q)=>if(Θ (x<n))=W then(aH l x).bind λy=>if((Θ (y<lo))||(Θ (y>d)))=W then Y Ι else f (i64.wrap (x+1))else E) 5000 0) Η:=by subst e;refine vH l (λ_ a=>lo<=a/\a<=d) (λi f h _ m=>?_) (λf h=>?_) j;{simp only[cK h,Υ,bW h,ay,bT (show i<1000000 by omega),bo,aT,fY,bF];grind};simp only[eR,cf,cy];exact g (Dw h)
def CD{a b c d lo e:Q}:(∀x∈[a,b,c,d],lo<=x/\x<=e)↔(lo<=a/\a<=e)/\(lo<=b/\b<=e)/\(lo<=c/\c<=e)/\(lo<=d/\d<=e):=by simp
def LO{a b c lo d:Q}:(∀x∈[a,b,c],lo<=x/\x<=d)↔(lo<=a/\a<=d)/\(lo<=b/\b<=d)/\(lo<=c/\c<=d):=by simp
def Up(r:aG):gG (ON 5000 r) (aR r):=by simp only[ON,iq,ay];refine lpN [r.bX,r.Mem,r.b_,r.ce] 0 1048576 4 rfl (λh=>?_) (λh=>?_) (by simp);{simp only[cf,Jd];exactλv=>h (CD.2 ⟨v.FA,v.mem,v.Hg,v.Jh⟩)};rw[aT];obtain⟨a,d,e,f⟩:=CD.1 h;exact⟨λ_=>⟨a,d,e,f⟩,λ_=>rfl⟩
def bY:aG:={ bX:=0,Mem:=0,b_:=0,ce:=0 }
theorem jk{a b:aG}:aG.beq a b=W↔a=b:=by obtain⟨d,e,f,g⟩:=a;obtain⟨h,i,j,k⟩:=b;simp[aG.beq]
def OU(l:Z Q):X->Q|0=>-1|i+1=>l[i]?.getD 0
theorem sI{l:Z Q}{i:X}(h:i<l.length):OU l (i+1)=l[i]:=by simp[OU,h]
def nr(l:Z Q)(n:Q):Prop:=∀i (h:i<l.length),OU l i<l[i]/\l[i]<n
theorem nr.nn{l:Z Q}{n:Q}(h:∀i (j:i<l.length),OU l i<l[i]):∀i (j:i<l.length),0<=l[i]:=by intro i;induction i with|zero=>grind[OU]|succ i ih=>grind[sI]
theorem nr.mem{l:Z Q}{n:Q}(h:nr l n):∀x∈l,0<=x/\x<n:=λx s=>by obtain⟨i,j,rfl⟩:=fo s;exact⟨nr.nn (n:=n) (λi j=>(h i j).1) i j,(h i j).2⟩
def ascending(l:Z Q)(n:Q)(q:l.length<99):gG (zfn 5000 l n) (nr l n):=by simp only[zfn];refine fy l.length (λi x=>x=(OU l i,(i:Q))/\∀j (e:j<l.length),j<i->OU l j<l[j]/\l[j]<n) (λi x f a d k=>?_) (λx f d=>?_) ⟨rfl,λj e h=>by omega⟩ (by omega);{obtain⟨rfl,g⟩:=d;simp only[cK a,Υ,bW a,ay,bT (show i<1000000 by omega),bo,aT,fY,bF];refine⟨λh=>?_,λh=>k _ ⟨by rw[sI a],λj e m=>?_⟩⟩;{simp only[cf,Jd];intro p;have:=p i a;omega};grind};obtain⟨rfl,g⟩:=d;simp only[eR,cf,cy,aT,SH];exactλi a=>g i a a
def HB(l:Z Q)(n:Q)(r:l.length<99):gG (zc4 5000 l n) (nr l n):=by simp only[zc4,dZ];refine vH l (λi a=>OU l i<a/\a<n) (λi f h s e=>?_) (λf h=>?_) (by omega);{have g:Θ ((i:Q)>0)=Θ (0<i):=by{simp};simp only[cK h,Υ,bW h,ay,bT (show i<1000000 by omega),bo,aT,bF,g,cf,cy];have bad:¬(OU l i<l[i]/\l[i]<n)->(False↔nr l n):=λj=>by{simp only[Jd];exactλd=>j (d i h)};refine⟨λk=>?_,λk=>⟨λp=>bad (by omega),λp=>⟨λq=>?_,λq=>?_⟩⟩⟩;{simp only[Jd];intro d;have:=(d.mem _ (bx h)).1;omega};{obtain⟨m,rfl⟩:∃m,i=m+1:=⟨i-1,by omega⟩;rw[wp1 (show m+1<1000000 by omega),bW (show m<l.length by omega)];rw[sI (by omega)]at bad e;simp only[ay,bo,bF,aT,cf];simp_all};grind[OU]};simp only[eR,cf,cy,aT,SH];exact h
structure pW (s:aZ):Prop where
 lo:1<=s.aj.length
 bV:s.aj.length<=16
 ok:∀r∈s.aj,aR r
def UN(s:aZ):gG (gL 5000 s) (pW s):=by simp only[gL,bo,aT];refine⟨λh=>?_,λh=>?_⟩;{simp only[fY,bF]at h;simp only[cf,Jd];grind[pW.lo,pW.bV]};simp only[fY,bF,ϥ]at h;refine SQ s.aj aR _ (λk=>k.ok) (λi f a Η e g=>?_) (λf d=>?_) (by omega);{simp only[cK a,Υ,bW a,ay,bT (show i<1000000 by omega)];refine(Up _).bind λr j=>?_;simp only[bo,aT,iF,pO];grind};simp only[eR,cf,cy,aT,SH];exact⟨by omega,by omega,d⟩
def XI(s:aZ)(d:iT s):gG (zdx 5000 s) (pW s):=by have:=d.nodes;simp only[zdx];refine SQ s.aj aR _ (λk=>k.ok) (λi f a Η g j=>?_) (λf e=>?_) (by omega);{simp only[cK a,Υ,bW a,ay,bT (show i<1000000 by omega)];refine(CO _).bind λr l=>?_;simp only[bo,aT,iF,pO];grind};simp only[eR,cf,cy,Dk,ay,aT,bM,bF];exact⟨λh=>⟨by omega,by omega,e⟩,λh=>by grind[pW.lo,pW.bV]⟩
structure qh (s:aZ):Prop where
 lo:1<=s.aK.length
 bV:s.aK.length<=8
 ok:∀p∈s.aK,1<=p.length/\nr p s.aj.length
def UT(s:aZ)(d:iT s):gG (gI 5000 s) (qh s):=by simp only[gI,dZ,bo,aT];refine⟨λh=>?_,λh=>?_⟩;{simp only[fY,bF]at h;simp only[cf,Jd];grind[qh.lo,qh.bV]};simp only[fY,bF,ϥ]at h;refine SQ s.aK (λp=>1<=p.length/\nr p s.aj.length) _ (λk=>k.ok) (λi f a Η l g=>?_) (λf j=>?_) (by omega);{have:=d.part _ (bx a);simp only[cK a,Υ,bW a,ay,bT (show i<1000000 by omega),bo,aT,bF];refine⟨λe=>g (by omega),λe=>?_⟩;refine (ascending _ _ (by omega)).bind λr m=>?_;simp only[bo,aT,iF,pO];grind};simp only[eR,cf,cy,aT,SH];exact⟨by omega,by omega,j⟩
def Zn(s:aZ)(d:iT s):gG (zdm 5000 s) (qh s):=by have:=d.parts;simp only[zdm,dZ];refine SQ s.aK (λp=>1<=p.length/\nr p s.aj.length) _ (λk=>k.ok) (λi f a Η l g=>?_) (λf j=>?_) (by omega);{have:=d.part _ (bx a);simp only[cK a,Υ,bW a,ay,bT (show i<1000000 by omega),bo,aT,bF];refine⟨λe=>g (by omega),λe=>?_⟩;refine(HB _ _ (by omega)).bind λr m=>?_;simp only[bo,aT,iF,pO];grind};simp only[eR,cf,cy,Dk,ay,aT,bM,bF];exact⟨λh=>⟨by omega,by omega,j⟩,λh=>by grind[qh.lo,qh.bV]⟩
structure BG (s:aZ)(q:vf):Prop where
 part:0<=q.Part/\q.Part<s.aK.length
 xS:nr q.aV s.aV
 aL:1<=q.kH/\q.kH<=256
 run:1<=q.nZ/\q.nZ<=256
 user:1<=q.jy/\q.jy<=256
 qos:0<=q.fh/\q.fh<=100
structure rH (s:aZ):Prop where
 lo:1<=s.aq.length
 bV:s.aq.length<=8
 ok:∀q∈s.aq,BG s q
def Sk(s:aZ)(l:iT s):gG (zfJ 5000 s) (rH s):=by simp only[zfJ,dZ,bo,aT];refine⟨λh=>?_,λh=>?_⟩;{simp only[fY,bF]at h;simp only[cf,Jd];grind[rH.lo,rH.bV]};simp only[fY,bF,ϥ]at h;refine SQ s.aq (BG s) _ (λk=>k.ok) (λi f a Η m d=>?_) (λf n=>?_) (by omega);{have:=l.queue _ (bx a);simp only[cK a,Υ,bW a,ay,bT (show i<1000000 by omega),cf,cy];rw[bo];refine⟨λe=>?_,λe=>?_⟩;{simp only[fY,bF]at e;rw[aT];exact d λk=>by have:=k.part;omega};simp only[fY,bF,ϥ]at e;refine (ascending _ _ (by omega)).bind λr p=>?_;rw[bo];refine⟨λg=>?_,λg=>?_⟩;{grind[aT,BG.xS]};simp only[iF,pO]at g;refine lpN [_,_,_] 1 256 3 rfl (λq=>d λk=>q (LO.2 ⟨k.aL,k.run,k.user⟩)) (λt=>?_) (by simp);obtain⟨u,v,w⟩:=LO.1 t;rw[bo];refine⟨λj=>?_,λj=>?_⟩;{simp only[fY,bF]at j;rw[aT];exact d λk=>by have:=k.qos;omega};simp only[fY,bF,ϥ]at j;exact m ⟨by omega,p.1 g,u,v,w,by omega⟩};simp only[eR,cf,cy,aT,SH];exact⟨by omega,by omega,n⟩
def TJ(s:aZ)(g:iT s):gG (zcZ 5000 s) (rH s):=by have:=g.fj;simp only[zcZ,dZ];refine SQ s.aq (BG s) _ (λk=>k.ok) (λi f d Η l a=>?_) (λf m=>?_) (by omega);{have:=g.queue _ (bx d);simp only[cK d,Υ,bW d,ay,bT (show i<1000000 by omega),cf,cy];rw[bo];refine⟨λe=>?_,λe=>?_⟩;{simp only[fY,bF]at e;rw[aT];exact a λk=>by have:=k.part;omega};simp only[fY,bF,ϥ]at e;refine(HB _ _ (by omega)).bind λr n=>?_;simp only[Dk,ay,bo,aT,iF,pO,bM,bF,yBL,yBo];refine⟨λj=>a λk=>by grind[BG.xS],λj=>⟨λp=>a λk=>by have:=k.aL;omega,λp=>⟨λq=>a λk=>by have:=k.run;omega,λq=>⟨λt=>a λk=>by have:=k.user;omega,λt=>⟨λu=>a λk=>by have:=k.qos;omega,λu=>?_⟩⟩⟩⟩⟩;exact l ⟨by omega,n.1 j,by omega,by omega,by omega,by omega⟩};simp only[eR,cf,cy,Dk,ay,aT,bM,bF];exact⟨λh=>⟨by omega,by omega,m⟩,λh=>by have:=h.lo;have:=h.bV;omega⟩
structure DP (w:WU):Prop where
 age:0<=w.iw/\w.iw<=1000
 size:0<=w.cI/\w.cI<=1000
 qos:0<=w.fh/\w.fh<=1000
 share:0<=w.bJ/\w.bJ<=1000
def Ov(w:WU):gG (ze1 5000 w) (DP w):=by simp only[ze1];refine lpN [w.iw,w.cI,w.fh,w.bJ] 0 1000 4 rfl (λh=>?_) (λh=>?_) (by simp);{simp only[cf,Jd];exactλv=>h (CD.2 ⟨v.age,v.size,v.qos,v.share⟩)};rw[aT];obtain⟨a,d,e,f⟩:=CD.1 h;exact⟨λ_=>⟨a,d,e,f⟩,λ_=>rfl⟩
structure bm (s:aZ):Prop where
 nodes:pW s
 parts:qh s
 xS:1<=s.aV/\s.aV<=8
 fj:rH s
 weights:DP s.ai
 decay:1<=s.ca/\s.ca<=16
 mode:s.Mode=1\/s.Mode=2
 aL:1<=s.ae/\s.ae<=256
 ids:1<=s.ko/\s.ko<=1048576
 rN:1<=s.aN/\s.aN<=65536
 linger:0<=s.bz/\s.bz<=65536
 keep:1<=s.dB/\s.dB<=16
 OT:1<=s.In/\s.In<=8
 out:1<=s.Out/\s.Out<=16
 cache:0<=s.cq/\s.cq<=16
def oJ(s:aZ)(q:iT s):gG (Tk 5000 s) (bm s):=by simp only[Tk,DF];obtain⟨O,A,m⟩:=UN s;obtain⟨S,E,n⟩:=UT s q;obtain⟨Ζ,F,r⟩:=Sk s q;obtain⟨Γ,G,t⟩:=Ov s.ai;simp only[A,E,F,G,ay];have T:∀(x:Χ),x.toList≠[]->(¬bm s)->bI ((Y x).bind λa=>Y (a.toList==(⟨#[]⟩:Χ).toList)) λb=>b=W↔bm s:=λx K Α=>by{rw[ay,aT];simp_all};have step:∀(c:Λ)(x:Χ)(o:Δ Χ),x.toList.isEmpty=Ι->(c=Ι->¬bm s)->(c=W->bI (o.bind λa=>Y (a.toList==(⟨#[]⟩:Χ).toList)) λb=>b=W↔bm s)->bI ((if(!c)=W then Y x else o).bind λa=>Y (a.toList==(⟨#[]⟩:Χ).toList)) λb=>b=W↔bm s:=λc x o K m n=>by{grind};have nb:∀{b:Λ}{p:Prop},(b=W↔p)->b=Ι->¬p:=λh e Β=>by{simp_all};refine step _ _ _ (by kernel_rfl) (λe k=>nb m e k.nodes) λc1=>?_;refine step _ _ _ (by kernel_rfl) (λe k=>nb n e k.parts) λL=>?_;refine step _ _ _ (by kernel_rfl) (λe k=>by grind[bm.xS]) λu=>?_;refine step _ _ _ (by kernel_rfl) (λe k=>nb r e k.fj) λM=>?_;refine step _ _ _ (by kernel_rfl) (λe k=>nb t e k.weights) λN=>?_;refine step _ _ _ (by kernel_rfl) (λe k=>by grind[bm.decay]) λv=>?_;refine step _ _ _ (by kernel_rfl) (λe k=>by grind[bm.mode]) λw=>?_;refine step _ _ _ (by kernel_rfl) (λe k=>by grind [bm.aL]) λy=>?_;refine step _ _ _ (by kernel_rfl) (λe k=>by grind[bm.ids]) λz=>?_;refine step _ _ _ (by kernel_rfl) (λe k=>by grind[bm.rN]) λd=>?_;refine step _ _ _ (by kernel_rfl) (λe k=>by grind[bm.linger]) λf=>?_;refine step _ _ _ (by kernel_rfl) (λe k=>by grind[bm.keep]) λg=>?_;refine step _ _ _ (by kernel_rfl) (λe k=>by grind[bm.OT]) λi=>?_;refine step _ _ _ (by kernel_rfl) (λe k=>by grind [bm.out]) λj=>?_;refine step _ _ _ (by kernel_rfl) (λe k=>by grind[bm.cache]) λl=>?_;rw[ay,aT];simp only[yC2,SH];simp only[bM,fY,bF,kh]at u v w y z d f g i j l;exact⟨m.1 c1,n.1 L,u,r.1 M,t.1 N,v,w,y,z,d,f,g,i,j,l⟩
theorem Qp{n:X}(hN:15<n){s:aZ}{g j m:Λ}(T:zdx n s=Y g)(F:g=W↔pW s)(Ζ:zdm n s=Y j)(G:j=W↔qh s)(Γ:zcZ n s=Y m)(K:m=W↔rH s):gG (zdy n s) (bm s):=by simp only[zdy,jA,T,Ζ,Γ,ay,Dk,dZ];have d:∀w:Λ,(w=W↔DP s.ai)->∀(L:Z Λ)(M:Z Χ),L=[g,j,Θ (1<=s.aV)&&Θ (s.aV<=8),m,w,Θ (1<=s.ca)&&Θ (s.ca<=16),Θ (1<=s.Mode)&&Θ (s.Mode<=2),Θ (1<=s.ae)&&Θ (s.ae<=256),Θ (1<=s.ko)&&Θ (s.ko<=1048576),Θ (1<=s.aN)&&Θ (s.aN<=65536),Θ (0<=s.bz)&&Θ (s.bz<=65536),Θ (1<=s.dB)&&Θ (s.dB<=16),Θ (1<=s.In)&&Θ (s.In<=8),Θ (1<=s.Out)&&Θ (s.Out<=16),Θ (0<=s.cq)&&Θ (s.cq<=16)]->(∀x∈M,x.toList≠[])->M.length=15->bI ((bE (λ(p:Q->Δ Χ)(e:Q)=>if(Θ (e<15))=W then(aH L e).bind λq=>if(!q)=W then(aH M e).bind λr=>Y r else p (i64.wrap (e+1))else Y (⟨#[]⟩:Χ)) n 0).bind λΑ=>Y (Α.toList==(⟨#[]⟩:Χ).toList)) λb=>b=W↔bm s:=by{intro w N L M Β hM O;have S:L.length=15:=by{simp_all};have t:(15:Q)=(L.length:Q):=by{omega};have all:(∀x∈L,x=W)↔bm s:=by{rw[Β];simp only[gJ,Rr,Ph,forall_eq_or_imp,forall_eq,bM,bF];constructor;{rintro⟨c1,c2,c3,c4,c5,c6,c7,c8,c9,u,v,y,z,A,E⟩;exact⟨F.1 c1,G.1 c2,c3,K.1 c4,N.1 c5,c6,by omega,c8,c9,u,v,y,z,A,E⟩};intro k;have:=k.mode;exact⟨F.2 k.nodes,G.2 k.parts,k.xS,K.2 k.fj,N.2 k.weights,k.decay,by omega,k.aL,k.ids,k.rN,k.linger,k.keep,k.OT,k.out,k.cache⟩};rw[zfK,t];have nil:(⟨#[]⟩:Χ).toList=[]:=by{kernel_rfl};refine vH L (λ_ x=>x=W) (λi f h _ hr=>?_) (λf hA=>?_) (by omega);{simp only[cK h,Υ,bW h,bW (l:=M) (show i<M.length by omega),ay,bT (show i<1000000 by omega),bo,aT,iF,pO,nil,kh]at hr ⊢;grind[Z.getElem_mem]};simp only[eR,cf,cy,aT,yC2,SH];exact all.1 (Dw hA)};have a:∀x∈([(⟨#[78,111,100,101,115]⟩:Χ),(⟨#[80,97,114,116,115]⟩:Χ),(⟨#[85,115,101,114,115]⟩:Χ),(⟨#[81,117,101,117,101,115]⟩:Χ),(⟨#[87,101,105,103,104,116,115]⟩:Χ),(⟨#[68,101,99,97,121]⟩:Χ),(⟨#[77,111,100,101]⟩:Χ),(⟨#[74,111,98,115]⟩:Χ),(⟨#[73,100,115]⟩:Χ),(⟨#[86,101,114,115,105,111,110,115]⟩:Χ),(⟨#[76,105,110,103,101,114]⟩:Χ),(⟨#[75,101,101,112]⟩:Χ),(⟨#[73,110]⟩:Χ),(⟨#[79,117,116]⟩:Χ),(⟨#[67,97,99,104,101]⟩:Χ)]:Z Χ),x.toList≠[]:=by{simp_all};split;{rename_i w1;split;{rename_i w2;split;{rename_i w3;refine d _ ?_ _ _ rfl a rfl;simp only[bM,bF]at w1 w2 w3 ⊢;exact⟨λw4=>⟨w1,w2,w3,w4⟩,λk=>k.share⟩};rename_i w3;refine d _ ?_ _ _ rfl a rfl;simp only[bM,bF]at w3;simp only[cf,Jd];exactλk=>w3 k.qos};rename_i w2;refine d _ ?_ _ _ rfl a rfl;simp only[bM,bF]at w2;simp only[cf,Jd];exactλk=>w2 k.size};rename_i w1;refine d _ ?_ _ _ rfl a rfl;simp only[bM,bF]at w1;simp only[cf,Jd];exactλk=>w1 k.age
def XO(s:aZ)(a:iT s):gG (zdy 5000 s) (bm s):=by obtain⟨d,e,f⟩:=XI s a;obtain⟨g,h,i⟩:=Zn s a;obtain⟨j,k,l⟩:=TJ s a;grind[Qp]
structure Dv (L:Z (Q×Q))(k:Q):Prop where
 lo:0<=k
 bV:k<=64
 fit:∀p∈L,k*p.2<=p.1
 max:k<64->∃p∈L,p.1<(k+1)*p.2
def Dv.CA{L:Z (Q×Q)}{k i:Q}(u:∀p∈L,0<=p.2)(h:Dv L k)(E:Dv L i):k=i:=by have x:∀{a b:Q},Dv L a->Dv L b->¬a<b:=λ{a b} z j A=>by{obtain⟨p,s,F⟩:=z.max (by have:=j.bV;omega);have G:=j.fit p s;have K:(a+1)*p.2<=b*p.2:=yAY (by omega) (u p s);omega};grind
theorem Dv.nil:Dv [] 64:=⟨by omega,by omega,by simp,by simp⟩
def qm(n a b:Q):Q:=if b>0 then(if a.tdiv b<n then a.tdiv b else n)else n
def Dv.step{L:Z (Q×Q)}{k a b:Q}(h:Dv L k)(z:∀p∈L,0<=p.2)(s:0<=a)(K:0<=b):Dv (L++[(a,b)]) (qm k a b):=by unfold qm;have u:=h.lo;have x:=h.bV;split;{rename_i j;rw[xAn s];have M:a / b*b<=a:=Q.ediv_mul_le a (by omega);have A:a<(a / b+1)*b:=Q.lt_ediv_add_one_mul_self a j;have E:0<=a / b:=I6 s (by omega);split;{rename_i F;refine⟨E,by omega,λp i=>?_,λ_=>⟨(a,b),by simp,A⟩⟩;rcases lE.1 i with i|i;{have:=h.fit p i;have:a / b*p.2<=k*p.2:=yAY (by omega) (z p i);omega};simp_all};rename_i G;refine⟨u,x,λp i=>?_,λhk=>?_⟩;{rcases lE.1 i with i|i;{exact h.fit p i};simp only[Df]at i;subst i;have:k*b<=a / b*b:=yAY (by omega) (by omega);grind};obtain⟨p,i,q⟩:=h.max hk;grind};rename_i j;have:b=0:=by{omega};subst this;refine⟨u,x,λp i=>?_,λhk=>?_⟩;{rcases lE.1 i with i|i;{exact h.fit p i};simp_all};obtain⟨p,i,q⟩:=h.max hk;grind
theorem Tf{n a b:Q}(h:b>0):qm n a b=if a.tdiv b<n then a.tdiv b else n:=by unfold qm;omega
theorem TG{n a b:Q}(h:¬b>0):qm n a b=n:=by unfold qm;omega
def Je(a b:aG):Z (Q×Q):=[(a.bX,b.bX),(a.Mem,b.Mem),(a.b_,b.b_),(a.ce,b.ce)]
def eW(a b:aG):Q:=qm (qm (qm (qm 64 a.bX b.bX) a.Mem b.Mem) a.b_ b.b_) a.ce b.ce
def yu{a b:aG}(e:aR a)(d:aR b):Dv (Je a b) (eW a b):=by have f:=Dv.nil;have g:=f.step (by simp) e.FA.1 d.FA.1;have h:=g.step (by simp;exact d.FA.1) e.mem.1 d.mem.1;have i:=h.step (by simp;exact⟨d.FA.1,d.mem.1⟩) e.Hg.1 d.Hg.1;have j:=i.step (by simp;exact⟨d.FA.1,d.mem.1,d.Hg.1⟩) e.Jh.1 d.Jh.1;exact j
theorem w1:i64.wrap (0+1)=1:=rfl
theorem w2:i64.wrap (1+1)=2:=rfl
theorem w3:i64.wrap (2+1)=3:=rfl
theorem w4:i64.wrap (3+1)=4:=rfl
theorem wq{a b:Q}(d:0<=a/\a<=1048576)(e:0<b):Ib .i64 a b=Y (a.tdiv b):=by unfold Ib;rw[Κ (by omega)];have f:0<=a / b:=I6 d.1 (by omega);have g:a / b<=a:=Q.ediv_le_self b d.1;grind[wr]
def stc(a b:aG):X->Q|0=>64|1=>qm 64 a.bX b.bX|2=>qm (qm 64 a.bX b.bX) a.Mem b.Mem|3=>qm (qm (qm 64 a.bX b.bX) a.Mem b.Mem) a.b_ b.b_|_=>eW a b
def count{a b:aG}(g:aR a)(h:aR b)(q:b≠bY):kl 5000 a b=Y (eW a b):=by obtain⟨r,j,k⟩:=Up a;obtain⟨s,l,m⟩:=Up b;have n:=k.2 g;have p:=m.2 h;subst n p;have d:aG.beq b bY=Ι:=by{grind[jk]};simp only[kl,dZ,j,l,ay,Rt,cf,cy,Λ.false_or,iq];change(if aG.beq b bY=W then Y 0 else _)=_;rw[d];simp only[cf,cy];refine bI.eq (fy 4 (λi x=>x=(stc a b i,(i:Q))) (λi x f t e u=>?_) (λx f e=>?_) rfl (by omega));{subst e;rcases(show i=0\/i=1\/i=2\/i=3 by omega)with rfl|rfl|rfl|rfl;{rw[show((0:X):Q)=0 from rfl];simp only[show Θ ((0:Q)<4)=W from rfl,Υ,at4x0,ay,w1,bo,bF];grind[stc,qm,wq,aR.FA]};{rw[show((1:X):Q)=1 from rfl];simp only[show Θ ((1:Q)<4)=W from rfl,Υ,at4x1,ay,w2,bo,bF];grind[stc,TG,wq,aR.mem,Tf]};{rw[show((2:X):Q)=2 from rfl];simp only[show Θ ((2:Q)<4)=W from rfl,Υ,at4x2,ay,w3,bo,bF];grind[stc,TG,wq,aR.Hg,Tf]};rw[show((3:X):Q)=3 from rfl];simp only[show Θ ((3:Q)<4)=W from rfl,Υ,at4x3,ay,w4,bo,bF];grind[stc,eW,TG,wq,aR.Jh,Tf]};subst e;simp only[show Θ (((4:X):Q)<4)=Ι from rfl,cf,cy,aT];rfl
def Ld{b:aG}(a:aR b):TK 5000 b bY=Y (Θ (b=bY)):=by simp only[TK,az];have:=a.FA;have:=a.mem;have:=a.Hg;have:=a.Jh;rw[xAc];simp only[bM,bF];obtain⟨d,e,f,g⟩:=b;grind[bY]
def Er{a b:aG}(j:aR a)(e:aR b)(z:b≠bY):zbP 5000 a b=Y (eW a b):=by obtain⟨Γ,A,u⟩:=CO a;obtain⟨Α,E,v⟩:=CO b;have F:=u.2 j;have G:=v.2 e;subst F G;simp only[zbP,dZ,A,E,ay,Rt,cf,cy];have K:TK 5000 b ({ bX:=0,Mem:=0,b_:=0,ce:=0 }:aG)=Y (Θ (b=bY)):=Ld e;rw[K];simp only[ay,z,decide_false,cf,cy];have Β:=j.FA;have hm:=j.mem;have hg:=j.Hg;have hl:=j.Jh;have m:=e.FA;have n:=e.mem;have q:=e.Hg;have r:=e.Jh;have L:∀p∈Je a b,0<=p.2:=by{intro p g;simp only[Je,gJ,Rr,Ph]at g;rcases g with rfl|rfl|rfl|rfl;{omega};{omega};{omega};omega};have done:∀k:Q,Dv (Je a b) k->k=eW a b:=λk hk=>hk.CA L (yu j e);have d:∀{i:X}{y:Q},i<=65->0<=y/\y<=1048576->0<=(i:Q)*y/\(i:Q)*y<=68157440:=λ{i y} M w=>by{have u:0<=(i:Q)*y:=yCa (by omega) w.1;have v:(i:Q)*y<=65*y:=yAY (by omega) w.1;omega};refine bI.eq (fy 64 (λi x=>x=((i:Q),((i+1:X):Q)*b.bX,((i+1:X):Q)*b.Mem,((i+1:X):Q)*b.b_,((i+1:X):Q)*b.ce)/\∀p∈Je a b,(i:Q)*p.2<=p.1) (λi x f M s N=>?_) (λx f s=>?_) ⟨by simp,λp g=>?_⟩ (by omega));{obtain⟨rfl,t⟩:=s;have m1:=d (i:=i+1) (by omega) m;have m2:=d (i:=i+1) (by omega) n;have m3:=d (i:=i+1) (by omega) q;have m4:=d (i:=i+1) (by omega) r;have l:∀y:Q,((i+1:X):Q)*y+y=((i+1+1:X):Q)*y:=λy=>by{grind};simp only[show Θ ((i:Q)<64)=W by grind,Υ,TK,ay,zbk,bo,aT,bM,bF,bT (show i<1000000 by omega)];rw[wr (by omega) (by omega),wr (by omega) (by omega),wr (by omega) (by omega),wr (by omega) (by omega),l,l,l,l];refine⟨λh=>N _ ⟨rfl,λp g=>?_⟩,λh=>done _ ⟨by omega,by omega,t,λ_=>?_⟩⟩;{simp only[Je,gJ,Rr,Ph]at g;rcases g with rfl|rfl|rfl|rfl;{simp_all};{simp_all};{simp_all};simp_all};rw[show((i:Q)+1)=((i+1:X):Q)by omega];by_cases O:a.bX<((i+1:X):Q)*b.bX;{exact⟨(a.bX,b.bX),by simp[Je],O⟩};by_cases S:a.Mem<((i+1:X):Q)*b.Mem;{exact⟨(a.Mem,b.Mem),by simp[Je],S⟩};by_cases T:a.b_<((i+1:X):Q)*b.b_;{exact⟨(a.b_,b.b_),by simp[Je],T⟩};by_cases Ζ:a.ce<((i+1:X):Q)*b.ce;{exact⟨(a.ce,b.ce),by simp[Je],Ζ⟩};omega};{obtain⟨rfl,t⟩:=s;simp only[show Θ (((64:X):Q)<64)=Ι from rfl,cf,cy,aT];exact done _ ⟨by omega,by omega,t,λh=>by omega⟩};simp only[Je,gJ,Rr,Ph]at g;grind
def uc(s:aZ)(l:Z Q)(need:aG):Q:=(l.map λn=>eW ((s.aj[n.toNat]?).getD bY) need).sum
def VA{a b:aG}(d:aR a)(e:aR b):0<=eW a b/\eW a b<=64:=⟨(yu d e).lo,(yu d e).bV⟩
def DN{s:aZ}{need:aG}(k:bm s)(p:aR need)(F:need≠bY){l:Z Q}(G:l.length<=300)(r:nr l s.aj.length)(C:aG->Δ Q)(t:∀a,aR a->C a=Y (eW a need)):bE (λ(u:Q×Q->Δ Q)(g:Q×Q)=>if(Θ (g.2<(l.length:Q)))=W then(aH l g.2).bind λv=>(aH s.aj v).bind λw=>(C w).bind λz=>u ((i64.wrap (g.1+z)),(i64.wrap (g.2+1)))else Y g.1) 5000 (0,0)=Y (uc s l need):=by have A:∀(m:Z Q),(∀x∈m,x∈l)->0<=uc s m need/\uc s m need<=64*m.length:=by{intro m;induction m with|nil=>grind[uc]|cons x m ih=>intro h;have K:=ih λy E=>h y (qT _ E);have q:=r.mem x (h x (sN ..));have d:x.toNat<s.aj.length:=by{omega};have:=VA (k.nodes.ok (s.aj[x.toNat]) (bx d)) p;grind[uc]};refine bI.eq (fy l.length (λi x=>x=(uc s (l.take i) need,(i:Q))) (λi x f j d n=>?_) (λx f d=>?_) (by grind) (by omega));{subst d;have q:=r.mem l[i] (bx j);obtain⟨d,e⟩:=Bp q.1 q.2;have c:=VA (k.nodes.ok (s.aj[l[i].toNat]) (bx d)) p;have b:=A (l.take i) λx d=>KJ d;have L:((l.take i).length:Q)<=300:=by{grind};simp only[cK j,Υ,bW j,ay,e,t _ (k.nodes.ok _ (bx d)),bT (show i<1000000 by omega)];rw[wr (by omega) (by omega)];refine n _ ?_;congr 1;rw[Jq j];simp only[uc,yB5,qZ,Z.map_nil,Z.sum_append,yCj,Z.sum_nil,fe d,VX];omega};subst d;simp only[eR,cf,cy,aT,vS]
def VO{s:aZ}(j:iT s)(k:bm s){q m:Q}{need:aG}(d:aR need)(f:need≠bY):∃b,zfr 5000 s q m need=Y b/\zdL 5000 s q m need=Y b:=by obtain⟨w,h,t⟩:=oJ s j;have u:=t.2 k;subst u;by_cases l:0<=q/\q<s.aq.length/\1<=m;{obtain⟨v,e⟩:=Bp l.1 l.2.1;have g:=k.fj.ok _ (bx v);obtain⟨n,p⟩:=Bp g.part.1 g.part.2;have r:=k.parts.ok _ (bx n);have lp:=j.part _ (bx n);refine⟨Θ (uc s (s.aK[s.aq[q.toNat].Part.toNat]) need≥m),?_,?_⟩;{simp only[zfr,h,ay];rw[Κ (by simp_all),e,ay];simp only[yk,h,ay];rw[Κ (by have:=g.part;simp;omega),p,ay];have:=DN k d f (jJ lp (by decide)) r.2 (λa=>kl 5000 a need) (λa i=>count i d f);rw[this,ay]};simp only[zdL];rw[Μ (by simp_all),e,ay];simp only[iL];rw[Κ (by have:=g.part;simp_all)];simp only[p,ay];have:=DN k d f (jJ lp (by decide)) r.2 (λa=>zbP 5000 a need) (λa i=>Er i d f);rw[this,ay]};refine⟨Ι,?_,?_⟩;{simp only[zfr,h,ay];grind};simp only[zdL];grind
structure BD (j:aE):Prop where
 st:1<=j.State/\j.State<=6
 start:j.Start≠0->3<=j.State
 fin:j.End≠0->5<=j.State
 ok:j.Ok=W->j.State=4\/j.State=5
 kill:j.cS=W->j.State=4\/j.State=6
structure de (j:aE):Prop where
 id:1<=j.Id/\j.Id<=1048576
 user:0<=j.bP/\j.bP<=7
 queue:0<=j.Queue/\j.Queue<=7
 many:1<=j.aQ/\j.aQ<=64
 need:aR j.aB
 ug:j.aB≠bY
 wall:1<=j.aS/\j.aS<=65536
 ee:j.aD.length<=4
 after:∀d∈j.aD,1<=d.aY/\d.aY<=j.Id-1
 version:1<=j.aO/\j.aO<=281474976710656
 born:0<=j.cH/\j.cH<=1099511627776
 start:0<=j.Start/\j.Start<=1099511627776
 fin:0<=j.End/\j.End<=1099511627776
 arr:0<=j.Array/\j.Array<=j.Id
 state:BD j
def name_ok(x:Q):bI (yy 5000 x) λr=>r.toList=[]↔¬(1<=x/\x<=6):=by simp only[yy,bo,aT,kh];have e:(⟨#[]⟩:Χ).toList=[]:=by{kernel_rfl};refine⟨λh=>?_,λa=>⟨λh=>?_,λd=>⟨λh=>?_,λf=>⟨λh=>?_,λg=>⟨λh=>?_,λi=>⟨λh=>?_,λj=>?_⟩⟩⟩⟩⟩⟩;{simp_all};{simp_all};{simp_all};{simp_all};{simp_all};{simp_all};grind
def Px(j:aE):gG (iY 5000 j) (BD j):=by have e:(⟨#[]⟩:Χ).toList=[]:=by{kernel_rfl};simp only[iY,dZ];refine(name_ok j.State).bind λr i=>?_;have no:∀{p:Prop},¬p->(Ι=W↔p):=λh=>by{simp[h]};rw[bo];refine⟨λh=>?_,λh=>?_⟩;{rw[aT];simp only[e,kh]at h;exact no λk=>i.1 h k.st};simp only[e,kh]at h;have l:1<=j.State/\j.State<=6:=yCz λm=>h (i.2 m);simp only[gT,SI,ay,cf,cy];have fin:∀Η:Prop,(Η↔((j.Ok=W->j.State=4\/j.State=5)/\(j.cS=W->j.State=4\/j.State=6)->BD j)/\True)->True:=λ_ _=>trivial;have a:(j.Start≠0->3<=j.State)->(j.End≠0->5<=j.State)->bI (if((j.Ok&&(j.State != 4))&&(j.State != 5))=W then Y Ι else if((j.cS&&(j.State != 4))&&(j.State != 6))=W then Y Ι else Y W) λb=>b=W↔BD j:=λf n=>by{simp only[bo,aT,bM,Jg,fm];refine⟨λq=>no λk=>by have:=k.ok q.1.1;omega,λs=>⟨λq=>no λk=>by have:=k.kill q.1.1;omega,λd=>?_⟩⟩;simp only[SH];refine⟨l,f,n,λo=>?_,λo=>?_⟩;{grind};grind};have mid:(j.Start≠0->3<=j.State)->bI (if(j.End !=0)=W then(if(!((j.State==5)||(j.State==6)))=W then Y Ι else if((j.Ok&&(j.State != 4))&&(j.State != 5))=W then Y Ι else if((j.cS&&(j.State != 4))&&(j.State != 6))=W then Y Ι else Y W)else if((j.Ok&&(j.State != 4))&&(j.State !=5))=W then Y Ι else if((j.cS&&(j.State != 4))&&(j.State !=6))=W then Y Ι else Y W) λb=>b=W↔BD j:=λf=>by{rw[bo];refine⟨λq=>?_,λq=>a f λg=>υ g (by simp_all)⟩;rw[bo];refine⟨λd=>?_,λd=>a f λ_=>?_⟩;{rw[aT];simp only[Jg,fm,iF,Cv,beq_eq_false_iff_ne]at q d;exact no λk=>by have:=k.fin q;omega};grind[Cv]};rw[bo];refine⟨λq=>?_,λq=>mid λg=>υ g (by simp_all)⟩;rw[bo];refine⟨λd=>?_,λd=>mid λ_=>?_⟩;{rw[aT];simp only[Jg,fm,fY,kh]at q d;exact no λk=>by have:=k.start q;omega};grind
def yl(j:aE):gG (zeO 5000 j) (de j):=by have no:∀{p:Prop},¬p->bI (Y Ι) (λb=>b=W↔p):=λh=>by{rw[aT];simp[h]};simp only[zeO,SK,ay];have a:∀{l m x:Q}{o:Δ Λ}{P:Prop},(P->l<=x/\x<=m)->(l<=x/\x<=m->bI o λb=>b=W↔P)->bI (if(Θ (l<=x)&&Θ (x<=m))=W then o else Y Ι) λb=>b=W↔P:=λv n=>by{rw[bo];simp only[bM,bF];exact⟨λh=>n h,λh=>no λp=>h (v p)⟩};refine a (λk=>k.id) λc1=>a (λk=>k.user) λE=>a (λk=>k.queue) λF=>a (λk=>k.many) λG=>?_;refine(Up j.aB).bind λr w=>?_;rw[bo];refine⟨λh=>?_,λh=>no λk=>h ?_⟩;rotate_left;{have S:aG.beq j.aB bY=Ι:=by{grind[jk,de.ug]};rw[w.2 k.need];change(W&&!(aG.beq j.aB bY))=W;simp_all};simp only[bM,iF]at h;have K:=w.1 h.1;have q:j.aB≠bY:=λe=>by{have n:aG.beq j.aB bY=Ι:=h.2;grind[jk]};refine a (λk=>k.wall) λL=>?_;have g:gG (i_ 5000 j) (j.aD.length<=4/\∀d∈j.aD,1<=d.aY/\d.aY<=j.Id-1):=by{simp only[i_,bo,aT,SK,ay];refine⟨λh=>?_,λh=>?_⟩;{grind};simp only[bF]at h;refine SQ j.aD (λd=>1<=d.aY/\d.aY<=j.Id-1) _ (λk=>k.2) (λi f y Η v n=>?_) (λf T=>?_) (by omega);{simp only[cK y,Υ,bW y,ay,bT (show i<1000000 by omega),bo,aT,iF,yBL,yBo];grind[wr]};simp only[eR,cf,cy,aT,SH];grind};refine g.bind λΖ z=>?_;rw[bo];refine⟨λh=>?_,λh=>no λk=>h (z.2 ⟨k.ee,k.after⟩)⟩;have A:=z.1 h;refine a (λk=>k.version) λM=>a (λk=>k.born) λN=>a (λk=>k.start) λs=>a (λk=>k.fin) λt=>a (λk=>k.arr) λu=>?_;refine(Px j).bind λrs O=>?_;rw[aT,O];exact⟨λk=>⟨c1,E,F,G,K,q,L,A.1,A.2,M,N,s,t,u,k⟩,λk=>k.state⟩
def JW(j:aE)(A:j.aD.length<=10):gG (zep 5000 j) (de j):=by simp only[zep,dZ,XG,ay];refine SQ j.aD (λd=>1<=d.aY/\d.aY<=i64.wrap (j.Id-1)) _ (λk d a=>by have:=k.after d a;have:=k.id;grind[wr]) (λi f e Η g E=>?_) (λf F=>?_) (by omega);{simp only[cK e,Υ,bW e,ay,bT (show i<1000000 by omega),bo,aT,iF,yBL,yBo];grind};simp only[eR,cf,cy];obtain⟨G,l,g⟩:=CO j.aB;simp only[l,ay];have no:∀{p:Prop},¬p->(False↔p):=λh=>by{simp[h]};simp only[Υ,cy,bo,aT,bF,iF,yBL,yBo,bM,cf,pO,Jg,fm,fY,kh];refine⟨λc=>no λk=>by grind[de.ee],λK=>⟨λc=>no λk=>by have:=k.id;omega,λc1=>⟨λc=>no λk=>by have:=k.user;omega,λL=>⟨λc=>no λk=>by have:=k.queue;omega,λM=>⟨λc=>no λk=>by have:=k.many;omega,λN=>⟨λc=>no λk=>(by grind[de.need]),λm=>?_⟩⟩⟩⟩⟩⟩;have v:=g.1 m;have n:TK 5000 j.aB ({ bX:=0,Mem:=0,b_:=0,ce:=0 }:aG)=Y (Θ (j.aB=bY)):=Ld v;simp only[Υ,cy,n,ay,bo,aT,bF,iF,yBL,yBo,bM,cf,pO,Jg,fm,fY,kh];refine⟨λc=>no λk=>k.ug c,λq=>⟨λc=>no λk=>by have:=k.wall;omega,λO=>⟨λc=>no λk=>by have:=k.state.st;omega,λS=>⟨λc=>no λk=>by have:=k.version;omega,λT=>⟨λc=>no λk=>by have:=k.arr;omega,λr=>⟨λc=>no λk=>by have:=k.born;omega,λs=>⟨λc=>no λk=>by have:=k.start;omega,λt=>⟨λc=>no λk=>by have:=k.fin;omega,λu=>⟨λc=>no λk=>by have:=k.state.start;omega,λw=>⟨λc=>no λk=>by have:=k.state.fin;omega,λx=>⟨λy=>?_,λc=>no λk=>c ?_⟩⟩⟩⟩⟩⟩⟩⟩⟩⟩⟩;{constructor;{intro z;refine⟨by omega,by omega,by omega,by omega,v,q,by omega,by omega,λd a=>?_,by omega,by omega,by omega,by omega,by omega,⟨by omega,by omega,by omega,λo=>?_,λo=>?_⟩⟩;{grind[wr]};{simp_all};simp_all};intro k;cases hk:j.cS with|false=>simp_all|true=>rcases k.state.kill hk with c|c;{omega};omega};cases hk:j.Ok with|false=>simp_all|true=>rcases k.state.ok hk with c|c;{omega};omega
section
variable{Ε R:Type}{b:(Ε->Δ R)->Ε->Δ R}{Η:R->Prop}
theorem lpM(I:Ε->Prop)(m:Ε->X)(g:∀x f,I x->(∀d,I d->m d<m x->bI (f d) Η)->bI (b f x) Η){a:Ε}(h:I a){N:X}(j:m a<N):bI (bE b N a) Η:=by induction N generalizing a with|zero=>omega|succ N ih=>exact g a _ h λd e i=>ih e (by omega)
end
def mid{i j:X}(h:i+j<1000000):i64.wrap (π (u64.wrap (i64.wrap ((i:Q)+(j:Q)))) (2^1))=(((i+j) / 2:X):Q):=by rw[wr (x:=(i:Q)+(j:Q)) (by omega) (by omega)];grind[Go.IntKind.wrap,Go.IntKind.bits]
def bD(l:Z aE):Prop:=∀i (h:i+1<l.length),l[i].Id<l[i+1].Id
theorem bD.lt{l:Z aE}(h:bD l):∀{i j:X}(s:i<j)(u:j<l.length),l[i].Id<l[j].Id:=by intro i j s u;induction j with|zero=>omega|succ j ih=>have x:=h j u;grind
theorem bD.inj{l:Z aE}(h:bD l){i j:X}(u:i<l.length)(x:j<l.length)(e:l[i].Id=l[j].Id):i=j:=by rcases yBv i j with s|s|s;{have:=h.lt s x;omega};{exact s};have:=h.lt s u;omega
structure At (l:Z aE)(id:Q)(r:Q):Prop where
 lo:0<=r
 bV:r.toNat<l.length
 is:l[r.toNat].Id=id
theorem At.mem{l:Z aE}{id r:Q}(h:At l id r):∃j∈l,j.Id=id:=⟨l[r.toNat]'h.bV,bx _,h.is⟩
def At.CA{l:Z aE}{id r i:Q}(s:bD l)(h:At l id r)(j:At l id i):r=i:=by have:=s.inj h.bV j.bV (by grind[At.is]);have:=h.lo;have:=j.lo;omega
def half{l:Z aE}(w:l.length<=300)(m:bD l)(id:Q){R:Type}{Η:R->Prop}(C:aE->Δ Λ)(p:∀j∈l,C j=Y (Θ (j.Id<id)))(E:Q->Δ R)(y:∀i:X,i<=l.length->(∀k (h:k<l.length),k<i->l[k].Id<id)->(∀k (h:k<l.length),i<=k->id<=l[k].Id)->bI (E (i:Q)) Η): ∀ (b:(Q×Q->Δ R)->Q×Q->Δ R), (∀ f x, b f x=if Θ (x.1<x.2)=W then(aH l (i64.wrap (π (u64.wrap (i64.wrap (x.1+x.2))) (2^1)))).bind λa=>(C a).bind λc=>if c=W then f ((i64.wrap ((i64.wrap (π (u64.wrap (i64.wrap (x.1+x.2))) (2^1)))+1)), x.2)else f (x.1, (i64.wrap (π (u64.wrap (i64.wrap (x.1+x.2))) (2^1))))else E x.1)->bI (bE b 5000 (0,(l.length:Q))) Η:=by intro b r;refine lpM (λx=>∃i j:X,x=((i:Q),(j:Q))/\i<=j/\j<=l.length/\(∀k (h:k<l.length),k<i->l[k].Id<id)/\(∀k (h:k<l.length),j<=k->id<=l[k].Id)) (λx=>(x.2-x.1).toNat) (λx f s n=>?_) ⟨0,l.length,rfl,by omega,by omega,λk h hk=>by omega,λk h hk=>by omega⟩ (by omega);obtain⟨i,j,rfl,z,t,u,v⟩:=s;rw[r,bo];dsimp only;refine⟨λh=>?_,λh=>?_⟩;{simp only[bF]at h;rw[mid (by omega)];have e:(i+j) / 2<l.length:=by{omega};rw[bW e,ay,p _ (bx e),ay,bo];refine⟨λg=>?_,λg=>?_⟩;{simp only[bF]at g;rw[bT (by omega)];refine n _ ⟨(i+j) / 2+1,j,rfl,by omega,t,λk hk d=>?_,v⟩ (by omega);rcases yBn (yC9.1 d)with q|q;{have:=m.lt q e;omega};simp_all};simp only[bF]at g;refine n _ ⟨i,(i+j) / 2,rfl,by omega,by omega,u,λk hk d=>?_⟩ (by omega);rcases yBn d with q|q;{have:=m.lt q hk;omega};simp_all};simp only[bF]at h;have:i=j:=by{omega};simp_all
def W_{l:Z aE}(n:l.length<=300)(g:bD l){id:Q}(p:0<=id/\id<=1048576)(m:∀j∈l,0<=j.Id/\j.Id<=1048576):bI (nR 5000 l id) λr=>(r.2=W↔∃j∈l,j.Id=id)/\(r.2=W->At l id r.1):=by simp only[nR,zaK];rw[zfK];refine half n g id (λj=>Y (Θ (i64.wrap (j.Id-id)<0))) (λj d=>?_) (λi=>if(Θ (i<(l.length:Q)))=W then(aH l i).bind λs=>(jx 5000 s id).bind λt=>Y (i,(t==0))else Y (i,Ι)) (λi u v w=>?_) _ (λf x=>rfl);{have:=m j d;rw[wr (by omega) (by omega)];grind};rw[bo];refine⟨λh=>?_,λh=>?_⟩;{simp only[bF]at h;have a:i<l.length:=by{omega};have:=m _ (bx a);rw[bW a,ay];simp only[jx,ay,aT,kh];rw[wr (by omega) (by omega)];refine⟨⟨λe=>⟨_,bx a,by omega⟩,λ⟨j,d,e⟩=>?_⟩,λe=>⟨by omega,by omega,by grind⟩⟩;obtain⟨k,hk,rfl⟩:=fo d;rcases yBv k i with q|q|q;{grind};{simp_all};have:=g.lt q hk;grind};simp only[bF]at h;simp only[aT,cf,Jd,false_implies,OW];grind[ϑ]
def vQ{l:Z aE}(g:l.length<=300)(id:Q):bI (YO 5000 l id) λr=>(0<=r↔∃j∈l,j.Id=id)/\(0<=r->At l id r)/\(r<0->r=-1):=by simp only[YO];refine vH l (λ_ j=>j.Id≠id) (λi f h _ a=>?_) (λf h=>?_) (by omega);{simp only[cK h,Υ,bW h,ay,bT (show i<1000000 by omega),bo,aT,kh];exact⟨λe=>⟨⟨λ_=>⟨_,bx h,e⟩,λ_=>by omega⟩,λ_=>⟨by omega,by omega,by simp_all⟩,λh=>by omega⟩,λe=>a e⟩};simp only[eR,cf,cy,aT];refine⟨⟨λh=>by omega,λ⟨j,d,e⟩=>υ e (Dw (A:=λj=>j.Id≠id) h j d)⟩,λh=>by omega,λ_=>trivial⟩
structure FP (l:Z dH)(n:Q)(i:X)(x:dH):Prop where
 up:OU (l.map (·.Node)) i<x.Node
 lt:x.Node<n
 lo:1<=x.aQ
 bV:x.aQ<=64
def bn(l:Z dH)(n:Q):Prop:=∀i (h:i<l.length),FP l n i l[i]
def bn.node{l:Z dH}{n:Q}(h:bn l n):nr (l.map (·.Node)) n:=λi j=>by rw[qY]at j;rw[Gj];exact⟨(h i j).up,(h i j).lt⟩
theorem bn.mem{l:Z dH}{n:Q}(h:bn l n):∀x∈l,0<=x.Node/\x.Node<n/\1<=x.aQ/\x.aQ<=64:=λx j=>by have s:=h.node.mem x.Node (fT.2 ⟨x,j,rfl⟩);obtain⟨i,z,rfl⟩:=fo j;have u:=h i z;exact⟨s.1,s.2,u.lo,u.bV⟩
theorem sV{l:Z dH}{i:X}(h:i<l.length):OU (l.map (·.Node)) (i+1)=l[i].Node:=by grind[sI]
def qg(l:Z dH)(n:Q)(s:l.length<=300):gG (zfT 5000 l n) (bn l n):=by simp only[zfT];refine fy l.length (λi x=>x=(OU (l.map (·.Node)) i,(i:Q))/\∀j (g:j<l.length),j<i->FP l n j l[j]) (λi x f a d p=>?_) (λx f d=>?_) ⟨rfl,λj g h=>by omega⟩ (by omega);{obtain⟨rfl,k⟩:=d;simp only[cK a,Υ,bW a,ay,bT (show i<1000000 by omega),bo,aT,fY,bF];refine⟨λh=>?_,λh=>p _ ⟨by rw[sV a],λj g e=>?_⟩⟩;{simp only[cf,Jd];intro r;have q:=r i a;have t:=q.up;have u:=q.lt;have v:=q.lo;have w:=q.bV;omega};rcases yBn (yC9.1 e)with m|m;{simp_all};subst m;exact⟨by omega,by omega,by omega,by omega⟩};obtain⟨rfl,k⟩:=d;simp only[eR,cf,cy,aT,SH];exactλi a=>k i a a
def LW(l:Z dH)(n:Q)(v:l.length<=300):gG (zbT 5000 l n) (bn l n):=by simp only[zbT,dZ];refine vH l (λi a=>FP l n i a) (λi f h w e=>?_) (λf h=>?_) (by omega);{have g:Θ ((i:Q)>0)=Θ (0<i):=by{simp};simp only[cK h,Υ,bW h,ay,bT (show i<1000000 by omega),bo,aT,bF,g,cf,cy];have bad:¬(FP l n i l[i])->(False↔bn l n):=λj=>by{simp only[Jd];exactλd=>j (d i h)};refine⟨λp=>?_,λp=>⟨λq=>bad λk=>by have:=k.lt;omega,λq=>⟨λr=>bad λk=>by have:=k.lo;omega,λr=>⟨λs=>bad λk=>by have:=k.bV;omega,λs=>⟨λt=>?_,λt=>?_⟩⟩⟩⟩⟩;{simp only[Jd];intro d;have:=(d.mem _ (bx h)).1;omega};{obtain⟨m,rfl⟩:∃m,i=m+1:=⟨i-1,by omega⟩;rw[wp1 (show m+1<1000000 by omega),bW (show m<l.length by omega)];simp only[ay,bo,bF,aT,cf];exact⟨λu=>bad λk=>by have:=k.up;grind[sV],λu=>e ⟨by grind[sV],by omega,by omega,by omega⟩⟩};have:i=0:=by{omega};subst this;exact e ⟨by grind[OU],by omega,by omega,by omega⟩};simp only[eR,cf,cy,aT,SH];exact h
def lQ(l:Z dH):Q:=(l.map (·.aQ)).sum
theorem tot_bd{l:Z dH}(h:∀x∈l,1<=x.aQ/\x.aQ<=64):0<=lQ l/\lQ l<=64*l.length:=by induction l with|nil=>simp[lQ]|cons x l ih=>have:=ih λy a=>h y (qT _ a);grind[lQ]
theorem QM{l:Z dH}{i:X}(h:i<l.length):lQ (l.take (i+1))=lQ (l.take i)+l[i].aQ:=by grind[Z.take_succ_eq_append_getElem,lQ]
def RJ{l:Z dH}{n:Q}(g:l.length<=300)(h:bn l n):qk 5000 l=Y (lQ l):=by simp only[qk];refine bI.eq (fy l.length (λi x=>x=(lQ (l.take i),(i:Q))) (λi x f d a j=>?_) (λx f a=>?_) (by simp[lQ]) (by omega));{subst a;have q:=h.mem _ (bx d);have b:=tot_bd (l:=l.take i) λx a=>(h.mem x (KJ a)).2.2;have k:((l.take i).length:Q)<=300:=by{rw[Dl];omega};have e:Gf 5000 l[i].aQ 0 64=Y l[i].aQ:=by{simp only[Gf];grind};simp only[cK d,Υ,bW d,ay,e,bT (show i<1000000 by omega)];grind[wr,QM]};subst a;simp only[eR,cf,cy,aT,vS]
def ZB{l:Z dH}{n:Q}(e:l.length<=300)(h:bn l n):zet 5000 l=Y (lQ l):=by simp only[zet,dZ];refine bI.eq (fy l.length (λi x=>x=(lQ (l.take i),(i:Q))) (λi x f d a g=>?_) (λx f a=>?_) (by simp[lQ]) (by omega));{subst a;have q:=h.mem _ (bx d);have b:=tot_bd (l:=l.take i) λx a=>(h.mem x (KJ a)).2.2;have j:((l.take i).length:Q)<=300:=by{grind};simp only[cK d,Υ,bW d,ay,bT (show i<1000000 by omega)];rw[Κ (by simp_all),Μ (by grind),wr (by omega) (by omega)];grind[QM]};subst a;simp only[eR,cf,cy,aT,vS]
def QZ(l:Z Q)(g:l.length<=300)(x:Q):gG (zct 5000 l x) (x∈l):=by simp only[gG,zct,zeP];rw[zfK];refine vH l (λ_ y=>x≠y) (λi f h _ a=>?_) (λf h=>?_) (by omega);{simp only[cK h,Υ,bW h,ay,bT (show i<1000000 by omega),bo,kh];refine⟨λe=>?_,λe=>a e⟩;simp only[aT,bF];simp_all};simp only[eR,cf,cy,aT,bF];exact⟨λh=>by omega,λd=>υ rfl (Dw (A:=λy=>x≠y) h x d)⟩
def ref_has(l:Z Q)(d:l.length<=300)(x:Q):gG (zfA 5000 l x) (x∈l):=by simp only[zfA];refine vH l (λ_ y=>y≠x) (λi f h _ e=>?_) (λf h=>?_) (by omega);{simp only[cK h,Υ,bW h,ay,bT (show i<1000000 by omega),bo,kh,aT,SH];grind};simp only[eR,cf,cy,aT,Jd];exactλa=>υ rfl (Dw (A:=λy=>y≠x) h x a)
structure iO (s:aZ)(j:aE)(l:Z dH):Prop where
 shares:bn l s.aj.length
 XJ:lQ l=j.aQ
 q:0<=j.Queue/\j.Queue<s.aq.length
 part:∀x∈l,x.Node∈(s.aK[((s.aq[j.Queue.toNat]?).getD default).Part.toNat]?).getD []
def Q_{s:aZ}(t:iT s)(k:bm s)(j:aE)(l:Z dH)(g:l.length<=300):gG (iu 5000 s j l) (iO s j l):=by have no:∀{p:Prop},¬p->bI (Y Ι) (λb=>b=W↔p):=λh=>by{rw[aT];simp[h]};simp only[iu,dZ];refine(qg l _ g).bind λr m=>?_;rw[bo];refine⟨λh=>?_,λh=>?_⟩;{simp only[Υ];exact no λk=>by grind[iO.shares]};simp only[iF,pO]at h;have S:=m.1 h;rw[RJ g S,ay,bo];refine⟨λu=>no λk=>by grind[iO.XJ],λu=>?_⟩;have v:lQ l=j.aQ:=by{simp_all};rw[bo];refine⟨λw=>no λk=>by have:=k.q;grind,λw=>?_⟩;have a:0<=j.Queue/\j.Queue<s.aq.length:=by{simp_all};obtain⟨d,e⟩:=Bp a.1 a.2;have n:=k.fj.ok _ (bx d);obtain ⟨y,z⟩:=Bp n.part.1 n.part.2;have lp:=t.part _ (bx y);have A:(s.aK[((s.aq[j.Queue.toNat]?).getD default).Part.toNat]?).getD []=s.aK[s.aq[j.Queue.toNat].Part.toNat]:=by{simp_all};rw[e,ay,z,ay];refine SQ l (λx=>x.Node∈s.aK[s.aq[j.Queue.toNat].Part.toNat]) _ (λk x d=>by rw[<-A];exact k.part x d) (λi f q Η E F=>?_) (λf G=>?_) (by omega);{simp only[cK q,Υ,bW q,ay,bT (show i<1000000 by omega)];refine (QZ _ (jJ lp (by decide)) _).bind λr m=>?_;simp only[bo,aT,iF,pO];grind};simp only[eR,cf,cy,aT,SH];exact⟨S,v,a,by simp_all⟩
def ref_mine{s:aZ}(u:iT s)(k:bm s)(j:aE)(l:Z dH)(g:l.length<=300):gG (ze5 5000 s j l) (iO s j l):=by have no:∀{p:Prop},¬p->bI (Y Ι) (λb=>b=W↔p):=λh=>by{rw[aT];simp[h]};simp only[ze5,dZ];refine(LW l _ g).bind λr m=>?_;rw[bo];refine⟨λh=>?_,λh=>?_⟩;{simp only[Υ];exact no λk=>by grind[iO.shares]};simp only[iF,pO]at h;have S:=m.1 h;rw[ZB g S,ay,bo];refine⟨λv=>no λk=>by have:=k.XJ;have:=k.q;grind,λv=>?_⟩;have n:lQ l=j.aQ/\0<=j.Queue/\j.Queue<s.aq.length:=by{simp_all};have a:=n.2;obtain⟨d,e⟩:=Bp a.1 a.2;have q:=k.fj.ok _ (bx d);obtain ⟨w,y⟩:=Bp q.part.1 q.part.2;have lp:=u.part _ (bx w);have z:(s.aK[((s.aq[j.Queue.toNat]?).getD default).Part.toNat]?).getD []=s.aK[s.aq[j.Queue.toNat].Part.toNat]:=by{simp_all};rw[e,ay,y,ay];refine SQ l (λx=>x.Node∈s.aK[s.aq[j.Queue.toNat].Part.toNat]) _ (λk x d=>by rw[<-z];exact k.part x d) (λi f t Η A E=>?_) (λf F=>?_) (by omega);{simp only[cK t,Υ,bW t,ay,bT (show i<1000000 by omega)];refine (ref_has _ (jJ lp (by decide)) _).bind λr m=>?_;simp only[bo,aT,iF,pO];grind};simp only[eR,cf,cy,aT,SH];exact⟨S,n.1,a,by simp_all⟩
abbrev K3:=Q×Q×Q
def IY(u v:K3):Prop:=u.1<v.1\/(u.1=v.1/\(u.2.1<v.2.1\/(u.2.1=v.2.1/\u.2.2<v.2.2)))
instance(u v:K3):Decidable (IY u v):=by unfold IY;infer_instance
theorem cmp1{N:X}(a b:Q):gO N a b=Y (if a<b then-1 else if a>b then 1 else 0):=by simp only[gO,cmp_isNaN_int,ay];simp;split;{rfl};split<;>rfl
def cmp3{N:X}(s:4<N)(u v:K3):bI (zaJ N ([u.1,u.2.1,u.2.2]:Z Q) ([v.1,v.2.1,v.2.2]:Z Q)) λr=>(r<0↔IY u v):=by obtain⟨N,rfl⟩:∃M,N=M+5:=⟨N-5,by omega⟩;obtain⟨a,b,c⟩:=u;obtain⟨d,e,f⟩:=v;unfold zaJ;have m:i64.wrap (0+1)=1:=rfl;have w1:i64.wrap (1+1)=2:=rfl;have w2:i64.wrap (2+1)=3:=rfl;have n:∀x y z:Q,aH [x,y,z] 0=Y x:=λ_ _ _=>rfl;have p:∀x y z:Q,aH [x,y,z] 1=Y y:=λ_ _ _=>rfl;have q:∀x y z:Q,aH [x,y,z] 2=Y z:=λ_ _ _=>rfl;simp only[bE,Ft,yB2,cmp1,ay,m,w1,w2,n,p,q,IY];simp;by_cases g:a<d;{rw[Μ g];simp[aT];omega};rw[Κ g];by_cases h:d<a;{rw[Μ h];simp[aT];omega};rw[Κ h];by_cases i:b<e;{rw[Μ i];simp[aT];omega};rw[Κ i];by_cases j:e<b;{rw[Μ j];simp[aT];omega};rw[Κ j];by_cases k:c<f;{rw[Μ k];simp[aT];omega};rw[Κ k];by_cases l:f<c;{rw[Μ l];simp[aT];omega};rw[Κ l];simp[aT];omega
def SY(p:Z K3)(x:Q):K3:=p.getD x.toNat (0,0,0)
def Uc(p:Z K3)(x:Q):Prop:=0<=x/\x<p.length
def at_kof{p:Z K3}{x:Q}(h:Uc p x):aH p x=Y (SY p x):=by obtain⟨a,e⟩:=Bp h.1 h.2;rw[e,SY,Ya,fe a];rfl
def FX{N:X}(d:4<N){p:Z K3}{x y:Q}(e:Uc p x)(f:Uc p y):bI ((aH p x).bind λa=>(aH p y).bind λb=>(zaJ N ([a.1,a.2.1,a.2.2]:Z Q) ([b.1,b.2.1,b.2.2]:Z Q)).bind λr=>Y r) λr=>(r<0↔IY (SY p x) (SY p y)):=by rw[at_kof e,at_kof f,ay,ay];exact(cmp3 d _ _).bind λr g=>aT.2 g
def eL{α:Type}{L R:Z α}{y:α}{i:Q}(h:i=L.length):aH (L++y::R) i=Y y:=by subst h;rw[bW (by simp)];simp
def iR{α:Type}{L R:Z α}{y z:α}{i:Q}(h:i=L.length):(L++y::R).set i.toNat z=L++z::R:=by subst h;simp
def Ci{x y:Q}(h:x=y)(a:-9000000<=y)(d:y<9000000):i64.wrap x=y:=by rw[wr (by omega) (by omega)];exact h
theorem up_ok{N:X}{L σ R:Z Q}{y:Q}{k E:Q}(hk:k=L.length)(r:E=L.length+σ.length)(K:σ.length<N)(s:(L++y::σ++R).length<=1000):bE (λi (e:Q×Z Q)=>if(Θ (e.1<E))=W then(aH e.2 (i64.wrap (e.1+1))).bind λg=>(aH e.2 e.1).bind λj=>(aH e.2 e.1).bind λt=>(aH (e.2.set e.1.toNat g) (i64.wrap (e.1+1))).bind λu=>i ((i64.wrap (e.1+1)),((e.2.set e.1.toNat g).set (i64.wrap (e.1+1)).toNat j))else Y e.2) N (k,L++y::σ++R)=Y (L++σ++y::R):=by apply bI.eq;simp only[Bv,Ft]at s;refine lpM (I:=λx=>∃d h,x=((d.length:Q),d++y::h++R)/\d++h=L++σ/\E=d.length+h.length) (m:=λx=>(E-x.1).toNat) (λx f z A=>?_) ⟨L,σ,by rw[hk],rfl,r⟩ (by omega);obtain⟨d,h,rfl,l,n⟩:=z;have p:=IZ τ l;simp only[Bv]at p;cases h with|nil=>simp only[yB2]at n;rw[Κ (by simp;omega),aT,<-l];simp|cons v a=>simp only[Ft]at n p;have w:i64.wrap ((d.length:Q)+1)=((d++[y]).length:X):=Ci (by simp) (by simp;omega) (by simp;omega);have F:d++y::v::a++R=(d++[y])++v::(a++R):=by{simp};have q:d++y::v::a++R=d++y::(v::a++R):=by{simp};have G:d++v::(v::a++R)=(d++[v])++v::(a++R):=by{simp};simp only;rw[Μ (by simp;omega),w,show aH (d++y::v::a++R) ((d++[y]).length:X)=Y v from by rw[F];exact eL rfl,vM,show aH (d++y::v::a++R) (d.length:Q)=Y y from by rw[q];exact eL rfl,ϔ,ϔ,q,iR rfl,G,eL (by simp),ϔ,iR (by simp)];refine A _ ⟨d++[v],a,by simp,by rw[<-l];simp,by simp;omega⟩ (by simp;omega)
def dn_ok{N:X}{L σ R:Z Q}{y:Q}{k E:Q}(hk:k=L.length+σ.length)(A:E=L.length)(F:σ.length<N)(p:(L++σ++y::R).length<=1000):bE (λj (a:Q×Z Q)=>if(Θ (a.1>E))=W then(aH a.2 (i64.wrap (a.1-1))).bind λg=>(aH a.2 a.1).bind λl=>(aH a.2 a.1).bind λq=>(aH (a.2.set a.1.toNat g) (i64.wrap (a.1-1))).bind λr=>j ((i64.wrap (a.1-1)),((a.2.set a.1.toNat g).set (i64.wrap (a.1-1)).toNat l))else Y a.2) N (k,L++σ++y::R)=Y (L++y::σ++R):=by apply bI.eq;simp only[Bv,Ft]at p;refine lpM (I:=λx=>∃h e,x=(((L++h).length:Q),L++h++y::e)/\h++e=σ++R) (m:=λx=>(x.1-E).toNat) (λx f s t=>?_) ⟨σ,R,by rw[hk];simp,rfl⟩ (by simp;omega);obtain⟨h,e,rfl,i⟩:=s;have n:=IZ τ i;simp only[Bv]at n;rcases B3 h with rfl|⟨d,v,rfl⟩;{rw[Κ (by simp;omega),aT];simp at i;rw[i];simp};simp only[yCs,Bv,Ft,yB2]at n i ⊢;have w:i64.wrap (((L.length+(d.length+(0+1)):X):Q)-1)=((L++d).length:X):=Ci (by simp;omega) (by simp;omega) (by simp;omega);have u:L++(d++[v])++y::e=(L++d)++v::(y::e):=by{simp};have G:L++(d++[v])++y::e=(L++(d++[v]))++y::e:=rfl;have z:(L++(d++[v]))++v::e=(L++d)++v::(v::e):=by{simp};rw[Μ (by simp;omega),w,show aH (L++(d++[v])++y::e) ((L++d).length:X)=Y v from by rw[u];exact eL rfl,vM,eL (by simp),ϔ,ϔ,iR (by simp),z,eL (by simp),ϔ,iR (by simp)];refine t _ ⟨d,v::e,by simp,by rw[<-i];simp⟩ (by simp;omega)
theorem sw_ok{N:X}{L Ζ M σ R:Z Q}{a b n:Q}(ha:a=L.length)(hb:b=L.length+Ζ.length+M.length)(hn:n=Ζ.length)(w:σ.length=Ζ.length)(hN:Ζ.length<N)(y:(L++Ζ++M++σ++R).length<=1000):bE (λp (d:Q×Z Q)=>if(Θ (d.1<n))=W then(aH d.2 (i64.wrap (b+d.1))).bind λl=>(aH d.2 (i64.wrap (a+d.1))).bind λq=>(aH d.2 (i64.wrap (a+d.1))).bind λz=>(aH (d.2.set (i64.wrap (a+d.1)).toNat l) (i64.wrap (b+d.1))).bind λA=>p ((i64.wrap (d.1+1)),((d.2.set (i64.wrap (a+d.1)).toNat l).set (i64.wrap (b+d.1)).toNat q))else Y d.2) N (0,L++Ζ++M++σ++R)=Y (L++σ++M++Ζ++R):=by apply bI.eq;simp only[Bv]at y;refine lpM (I:=λx=>∃h j i k,x=((Ζ.length:Q)-j.length,h++j++i++k++R)/\h++k++i++j++R=L++σ++M++Ζ++R/\k.length=j.length/\j.length<=Ζ.length/\(h.length:Q)=a+Ζ.length-j.length/\(h.length:Q)+j.length+i.length=b+Ζ.length-j.length) (m:=λx=>(n-x.1).toNat) (λx f E F=>?_) ⟨L,Ζ,M,σ,by simp,rfl,w,by omega,by omega,by omega⟩ (by omega);obtain⟨h,j,i,k,rfl,r,s,G,K,O⟩:=E;cases j with|nil=>{cases k with|nil=>rw[Κ (by simp;omega),aT,<-r]|cons=>simp at s}|cons u e=>cases k with|nil=>simp at s|cons v g=>simp only[Ft]at s G K O;have S:=IZ τ r;simp only[Bv,Ft]at S;have T:i64.wrap (a+((Ζ.length:Q)-((u::e).length:X)))=(h.length:X):=Ci (by simp;omega) (by omega) (by omega);have Γ:i64.wrap (b+((Ζ.length:Q)-((u::e).length:X)))=((h++u::e++i).length:X):=Ci (by simp;omega) (by simp;omega) (by simp;omega);have Α:i64.wrap (((Ζ.length:Q)-((u::e).length:X))+1)=(Ζ.length:Q)-(e.length:X):=Ci (by simp;omega) (by omega) (by omega);have Β:h++u::e++i++v::g++R=(h++u::e++i)++v::(g++R):=by{simp};have t:h++u::e++i++v::g++R=h++u::(e++i++v::g++R):=by{simp};have e3:h++v::(e++i++v::g++R)=(h++v::e++i)++v::(g++R):=by{simp};simp only;rw[Μ (by simp;omega),T,Γ,Α,show aH (h++u::e++i++v::g++R) ((h++u::e++i).length:X)=Y v from by rw[Β];exact eL rfl,vM,show aH (h++u::e++i++v::g++R) (h.length:X)=Y u from by rw[t];exact eL rfl,ϔ,ϔ,t,iR rfl,e3,eL (by simp),ϔ,iR (by simp)];refine F _ ⟨h++[v],e,i++[u],g,by simp,by rw[<-r];simp,by omega,by omega,by simp;omega,by simp;omega⟩ (by simp;omega)
def bs_ok{R:Type}{b:(Q×Q->Δ R)->Q×Q->Δ R}{Η:R->Prop}{lo a N:X}(G:X->Prop)(h:lo<=a)(u:a<N)(l:∀f (s r:X),lo<=s->s<r->r<=a->(G ((s+r) / 2)->bI (f (((((s+r) / 2:X):Q)+1),(r:Q))) Η)->(¬G ((s+r) / 2)->bI (f ((s:Q),(((s+r) / 2:X):Q))) Η)->bI (b f ((s:Q),(r:Q))) Η)(n:∀f (s:X),lo<=s->s<=a->(s=lo\/G (s-1))->(s=a\/¬G s)->bI (b f ((s:Q),(s:Q))) Η):bI (bE b N ((lo:Q),(a:Q))) Η:=by refine lpM (I:=λx=>∃s r:X,x=((s:Q),(r:Q))/\lo<=s/\s<=r/\r<=a/\(s=lo\/G (s-1))/\(r=a\/¬G r)) (m:=λx=>(x.2-x.1).toNat) (λx f p i=>?_) ⟨lo,a,rfl,by omega,h,by omega,.inl rfl,.inl rfl⟩ (by simp;omega);obtain⟨s,r,rfl,d,q,e,j,k⟩:=p;rcases yBn q with t|rfl;{refine l f s r d t e (λg=>i _ ⟨(s+r) / 2+1,r,by simp,by omega,by omega,e,.inr (by simpa using g),k⟩ (by simp;omega)) (λg=>i _ ⟨s,(s+r) / 2,rfl,d,by omega,by omega,j,.inr g⟩ (by simp;omega))};exact n f s d e j k
def qK{R:Type}{a b:X}{o:Δ R}(h:a=b):EQ a b o=o:=by subst h;simp[EQ]
def rot_ok{N:X}{L Ζ σ R:Z Q}{m i j:Q}(hm:m=L.length+Ζ.length)(Β:i=Ζ.length)(hj:j=σ.length)(hU:0<Ζ.length)(hV:0<σ.length)(hN:Ζ.length+σ.length<N)(hs:(L++Ζ++σ++R).length≤1000):bE (λs (d:Q×Q×Z Q)=>if(d.1!=d.2.1)=W then if(Θ (d.1>d.2.1))=W then(bE (λF (k:Q×Z Q)=>if(Θ (k.1<d.2.1))=W then(aH k.2 (i64.wrap (m+k.1))).bind λt=>(aH k.2 (i64.wrap ((i64.wrap (m-d.1))+k.1))).bind λG=>(aH k.2 (i64.wrap ((i64.wrap (m-d.1))+k.1))).bind λaa=>(aH (k.2.set (i64.wrap ((i64.wrap (m-d.1))+k.1)).toNat t) (i64.wrap (m+k.1))).bind λab=>F ((i64.wrap (k.1+1)),((k.2.set (i64.wrap ((i64.wrap (m-d.1))+k.1)).toNat t).set (i64.wrap (m+k.1)).toNat G))else Y k.2) N (0,d.2.2)).bind λu=>EQ d.2.2.length u.length <| s ((i64.wrap (d.1-d.2.1)),d.2.1,u)else(bE (λK (l:Q×Z Q)=>if(Θ (l.1<d.1))=W then(aH l.2 (i64.wrap ((i64.wrap ((i64.wrap (m+d.2.1))-d.1))+l.1))).bind λv=>(aH l.2 (i64.wrap ((i64.wrap (m-d.1))+l.1))).bind λO=>(aH l.2 (i64.wrap ((i64.wrap (m-d.1))+l.1))).bind λad=>(aH (l.2.set (i64.wrap ((i64.wrap (m-d.1))+l.1)).toNat v) (i64.wrap ((i64.wrap ((i64.wrap (m+d.2.1))-d.1))+l.1))).bind λaf=>K ((i64.wrap (l.1+1)),((l.2.set (i64.wrap ((i64.wrap (m-d.1))+l.1)).toNat v).set (i64.wrap ((i64.wrap ((i64.wrap (m+d.2.1))-d.1))+l.1)).toNat O))else Y l.2) N (0,d.2.2)).bind λw=>EQ d.2.2.length w.length <| s (d.1,(i64.wrap (d.2.1-d.1)),w)else(bE (λS (p:Q×Z Q)=>if(Θ (p.1<d.1))=W then(aH p.2 (i64.wrap (m+p.1))).bind λy=>(aH p.2 (i64.wrap ((i64.wrap (m-d.1))+p.1))).bind λT=>(aH p.2 (i64.wrap ((i64.wrap (m-d.1))+p.1))).bind λak=>(aH (p.2.set (i64.wrap ((i64.wrap (m-d.1))+p.1)).toNat y) (i64.wrap (m+p.1))).bind λan=>S ((i64.wrap (p.1+1)),((p.2.set (i64.wrap ((i64.wrap (m-d.1))+p.1)).toNat y).set (i64.wrap (m+p.1)).toNat T))else Y p.2) N (0,d.2.2)).bind λΓ=>Y Γ) N (i,j,L++Ζ++σ++R)=Y (L++σ++Ζ++R):=by apply bI.eq;simp only[Bv]at hs;refine lpM (I:=λx=>∃q h g r,x=((h.length:Q),(g.length:Q),q++h++g++r)/\q++g++h++r=L++σ++Ζ++R/\m=q.length+h.length/\0<h.length/\0<g.length/\h.length≤Ζ.length/\g.length≤σ.length) (m:=λx=>(x.1+x.2.1).toNat) (λx f hI Α=>?_) ⟨L,Ζ,σ,R,by rw[Β,hj],rfl,hm,hU,hV,by omega,by omega⟩ (by simp;omega);obtain⟨q,h,g,r,rfl,E,h2,h3,h4,h5,h6⟩:=hI;have hl:=IZ τ E;simp only[Bv]at hl;have wa:i64.wrap (m-(h.length:Q))=(q.length:Q):=Ci (by omega) (by omega) (by omega);simp only[wa];by_cases e:h.length=g.length;{rw[Κ (by simp[e])];have:=sw_ok (N:=N) (L:=q) (Ζ:=h) (M:=[]) (σ:=g) (R:=r) (a:=q.length) (b:=m) (n:=h.length) rfl (by simp;omega) rfl e.symm (by omega) (by simp;omega);simp only[Ce]at this;rw[this,ay,aT,E]};rw[Μ (by simp;omega)];by_cases e2:g.length<h.length;{rw[Μ (by simp;omega)];have z:h=h.take g.length++h.drop g.length:=(Ks _ _).symm;have:=sw_ok (N:=N) (L:=q) (Ζ:=h.take g.length) (M:=h.drop g.length) (σ:=g) (R:=r) (a:=q.length) (b:=m) (n:=g.length) rfl (by simp;omega) (by simp;omega) (by simp;omega) (by simp;omega) (by simp;omega);rw[zG q (h.take _),←z]at this;rw[this,ay,qK (by simp;omega),show i64.wrap ((h.length:Q)-g.length)=((h.drop g.length).length:Q)from Ci (by simp;omega) (by omega) (by simp;omega)];refine Α _ ⟨q++g,h.drop g.length,h.take g.length,r,by simp;omega,?_,by simp;omega,by simp;omega,by simp;omega,by simp;omega,by simp;omega⟩ (by simp;omega);rw[←E];(conv=>rhs;rw[z]);simp};rw[Κ (by simp;omega)];have A:g=g.take (g.length-h.length)++g.drop (g.length-h.length):=(Ks _ _).symm;have wb:i64.wrap (m+(g.length:Q))=m+g.length:=Ci rfl (by omega) (by omega);have wc:i64.wrap (m+(g.length:Q)-h.length)=m+g.length-h.length:=Ci rfl (by omega) (by omega);have:=sw_ok (N:=N) (L:=q) (Ζ:=h) (M:=g.take (g.length-h.length)) (σ:=g.drop (g.length-h.length)) (R:=r) (a:=q.length) (b:=m+g.length-h.length) (n:=h.length) rfl (by simp;omega) rfl (by simp;omega) (by omega) (by simp;omega);rw[zG (q++h) (g.take _),←A]at this;simp only[wb,wc];rw[this,ay,qK (by simp;omega),show i64.wrap ((g.length:Q)-h.length)=((g.take (g.length-h.length)).length:Q)from Ci (by simp;omega) (by omega) (by simp;omega)];refine Α _ ⟨q,g.drop (g.length-h.length),g.take (g.length-h.length),h++r,by simp;omega,?_,by simp;omega,by simp;omega,by simp;omega,by simp;omega,by simp;omega⟩ (by simp;omega);rw[←E];(conv=>rhs;rw[A]);simp
def DG(p:Z K3)(u v:Q):Prop:=¬IY (SY p v) (SY p u)
def Bb(p:Z K3)(l:Z Q):Prop:=l.Pairwise (DG p)
def DG.trans{p:Z K3}{a b c:Q}(h:DG p a b)(i:DG p b c):DG p a c:=by unfold DG IY at*;omega
theorem DG.refl{p:Z K3}{a:Q}:DG p a a:=by unfold DG IY;omega
theorem IY.le{p:Z K3}{a b:Q}(h:IY (SY p a) (SY p b)):DG p a b:=by unfold DG IY at*;omega
def VY{p:Z K3}{l:Z Q}(h:Bb p l){i j:X}(a:i<=j)(d:j<l.length):DG p (l.getD i 0) (l.getD j 0):=by rcases yBn a with e|rfl;{have:=yBb.1 h i j (by omega) d e;simpa[Ya,d,show i<l.length by omega]using this};exact .refl
def IX{p:Z K3}{l:Z Q}(h:Bb p l){t:X}(g:t<=l.length){y:Q}(a:t=0\/DG p (l.getD (t-1) 0) y):∀u∈l.take t,DG p u y:=λu d=>by obtain⟨i,f,rfl⟩:=fo d;simp only[Dl]at f;rcases a with rfl|a;{omega};have:=VY h (i:=i) (j:=t-1) (by omega) (by omega);rw[Ub];have e:l.getD i 0=l[i]'(by omega):=by{simp[Ya,show i<l.length by omega]};rw[<-e];exact this.trans a
def Gx{p:Z K3}{l:Z Q}(h:Bb p l){t:X}{y:Q}(a:l.length<=t\/DG p y (l.getD t 0)):∀u∈l.drop t,DG p y u:=λu d=>by obtain⟨i,f,rfl⟩:=fo d;simp only[yBV]at f;rcases a with a|a;{omega};have:=VY h (i:=t) (j:=t+i) (by omega) (by omega);rw[yCf];have e:l.getD (t+i) 0=l[t+i]'(by omega):=by{simp[Ya,show t+i<l.length by omega]};rw[<-e];exact a.trans this
def Bb.SE{p:Z K3}{l:Z Q}(h:Bb p l)(t:X):Bb p (l.take t):=B4 (Z.take_sublist _ _) h
def Bb.Qw{p:Z K3}{l:Z Q}(h:Bb p l)(t:X):Bb p (l.drop t):=B4 (Z.drop_sublist _ _) h
def Wa{p:Z K3}{l:Z Q}(h:Bb p l){t:X}(f:t<=l.length){y:Q}(g:t=0\/DG p (l.getD (t-1) 0) y)(i:l.length<=t\/DG p y (l.getD t 0)):Bb p (l.take t++y::l.drop t):=by have a:=IX h f g;have b:=Gx h i;refine NX.2 ⟨h.SE t,yBz.2 ⟨b,h.Qw t⟩,λu e v d=>?_⟩;rcases gJ.1 d with rfl|d;{exact a u e};exact(a u e).trans (b v d)
def kQ{L B R:Z Q}{t k:X}(hk:k=L.length+t)(a:t<B.length):(L++B++R).getD k 0=B.getD t 0:=by subst hk;simp only[Ya];rw[zG,PO (by omega),Jc (by omega),yBQ]
def Mp{l:Z Q}{k:X}{i:Q}(h:i=(k:Q))(hk:k<l.length):aH l i=Y (l.getD k 0):=by subst h;rw[bW hk];simp[Ya,hk]
def Gk{p:Z K3}{l:Z Q}(h:∀x∈l,Uc p x){k:X}(hk:k<l.length):Uc p (l.getD k 0):=by have:l.getD k 0=l[k]:=by{simp[Ya,hk]};rw[this];exact h _ (bx hk)
def Ei{Ε R:Type}{K:Ε->Δ R}{J:(Ε->Δ R)->Δ R}{Η:R->Prop}(yd:Ε->Prop)(a:∀k,(∀x,yd x->bI (k x) Η)->bI (J k) Η)(d:∀x,yd x->bI (K x) Η):bI (jn K J) Η:=a K d
set_option maxHeartbeats 4000000 in
theorem Qn{p:Z K3}:∀(N:X)(P A B S:Z Q)(a m b:Q),A≠[]->B≠[]->(P++A++B++S).length<=1000->(∀x∈P++A++B++S,Uc p x)->A.length+B.length+1100<=N ->
  a=P.length->m=P.length+A.length->b=P.length+A.length+B.length ->
  bI (zbs N (P++A++B++S) a m b p) λr=>∃C,r=P++C++S/\C.Perm (A++B)/\(Bb p A->Bb p B->Bb p C):=by
 intro N;induction N with
 |zero=>intro P A B S a m b _ _ _ _ h;omega
 |succ N ih=>
  intro P A B S a m b hA hB hl F hN ha hm hb;have a0:0<A.length:=yBi.2 hA;have a1:0<B.length:=yBi.2 hB;have ak:=hl;simp only[Bv] at ak;show bI (if (i64.wrap (m-a) == 1)=W then _ else _) _;rw[bo];have w1:i64.wrap (m-a)=A.length:=Ci (by omega) (by omega) (by omega);have w2:i64.wrap (b-m)=B.length:=Ci (by omega) (by omega) (by omega);rw[w1];refine ⟨λO=>?_,λO=>?_⟩
  ·
   obtain ⟨y,rfl⟩:∃y,A=[y]:=by
    match A,O with
    |[y],_=>exact ⟨y,rfl⟩
    |[],O=>simp at O
    |_::_::_,O=>simp at O;omega
   have hy:aH (P++[y]++B++S) a=Y y:=by rw[show P++[y]++B++S=P++y::(B++S) by simp];exact eL ha
   have an:Uc p y:=F y (by simp);simp only[Ft,yB2] at hm hb ak hN;obtain ⟨q,rfl⟩:∃q:X,m=q:=⟨P.length+1,by omega⟩;obtain ⟨K,rfl⟩:∃K:X,b=K:=⟨P.length+1+B.length,by omega⟩;refine bs_ok (λh=>IY (SY p ((P++[y]++B++S).getD h 0)) (SY p y)) (by omega) (by omega) (λf s r T Ζ n hg hn=>?_) (λf s T Ζ n w=>?_)
   ·have G:(s+r) / 2<(P++[y]++B++S).length:=by simp;omega
    simp only;rw[Μ (by simp;omega),mid (by omega),Mp rfl G,ay,hy,ay,Ci (x:=(((s+r) / 2:X):Q)+1) rfl (by omega) (by omega)];refine (FX (by omega) (Gk F G) an).bind λr M=>?_;rw[bo];exact ⟨λh=>hg (M.1 (by simpa using h)),λh=>hn λg=>h (by simpa using M.2 g)⟩
   ·simp only;rw[Κ (by simp)];have ht:s-q<=B.length:=by omega
    have aw:B=B.take (s-q)++B.drop (s-q):=(Ks _ _).symm;have e:P++[y]++B++S=P++y::B.take (s-q)++(B.drop (s-q)++S):=by simp only[zG,Fs,vJ];rw[<-zG (Z.take _ _) (Z.drop _ _) S,Ks]
    rw[Ci (x:=(s:Q)-1) (y:=(P.length:Q)+(B.take (s-q)).length) (by simp;omega) (by omega) (by simp;omega)]
    conv in (P++[y]++B++S)=>rw[e]
    rw[up_ok ha rfl (by simp;omega) (by simp;omega),aT];refine ⟨B.take (s-q)++y::B.drop (s-q),by simp,?_,λ_ hb=>Wa hb ht ?_ ?_⟩
    ·conv=>rhs;rw[aw]
     exact Z.perm_middle
    ·rcases n with n | n
     ·left;omega
     ·by_cases Γ:s-q=0
      ·exact .inl Γ
      ·right;rw[kQ (L:=P++[y]) (B:=B) (R:=S) (t:=s-q-1) (by simp;omega) (by omega)] at n;exact n.le
    ·rcases w with w | w
     ·left;omega
     ·by_cases Γ:B.length<=s-q
      ·exact .inl Γ
      ·right;rw[kQ (L:=P++[y]) (B:=B) (R:=S) (t:=s-q) (by simp;omega) (by omega)] at w;exact w
  ·rw[bo,w2];refine ⟨λh2=>?_,λh2=>?_⟩
   ·
    obtain ⟨y,rfl⟩:∃y,B=[y]:=by
     match B,h2 with
     |[y],_=>exact ⟨y,rfl⟩
     |[],O=>simp at O
     |_::_::_,O=>simp at O;omega
    have hy:aH (P++A++[y]++S) m=Y y:=by rw[show P++A++[y]++S=(P++A)++y::S by simp];exact eL (by simp;omega)
    have an:Uc p y:=F y (by simp);simp only[Ft,yB2] at hm hb ak hN;obtain ⟨E,rfl⟩:∃E:X,a=E:=⟨P.length,by omega⟩;obtain ⟨q,rfl⟩:∃q:X,m=q:=⟨P.length+A.length,by omega⟩;refine bs_ok (λh=>¬IY (SY p y) (SY p ((P++A++[y]++S).getD h 0))) (by omega) (by omega) (λf s r T Ζ n hg hn=>?_) (λf s T Ζ n w=>?_)
    ·have G:(s+r) / 2<(P++A++[y]++S).length:=by simp;omega
     simp only;rw[Μ (by simp;omega),mid (by omega),hy,ay,Mp rfl G,ay,Ci (x:=(((s+r) / 2:X):Q)+1) rfl (by omega) (by omega)];refine (FX (by omega) an (Gk F G)).bind λr M=>?_;rw[bo];refine ⟨λh=>hg λg=>?_,λh=>hn λg=>?_⟩
     ·have:=M.2 g;simp at h;omega
     ·simp at h;exact g (M.1 h)
    ·simp only;rw[Κ (by simp)];have ht:s-E<=A.length:=by omega
     have av:A=A.take (s-E)++A.drop (s-E):=(Ks _ _).symm;have e:P++A++[y]++S=(P++A.take (s-E))++A.drop (s-E)++y::S:=by
      conv=>lhs;rw[av]
      simp
     conv in (P++A++[y]++S)=>rw[e]
     rw[dn_ok (by simp;omega) (by simp;omega) (by simp;omega) (by simp;omega),aT];refine ⟨A.take (s-E)++y::A.drop (s-E),by simp,?_,λhb _=>Wa hb ht ?_ ?_⟩
     ·conv=>rhs;rw[av]
      simp only[zG];exact yCt _ (yBZ (l₁:=[y]))
     ·rcases n with n | n
      ·left;omega
      ·by_cases Γ:s-E=0
       ·exact .inl Γ
       ·right;rw[show P++A++[y]++S=P++A++([y]++S) by simp,kQ (L:=P) (B:=A) (t:=s-E-1) (by omega) (by omega)] at n;exact n
     ·rcases w with w | w
      ·left;omega
      ·by_cases Γ:A.length<=s-E
       ·exact .inl Γ
       ·right;rw[show P++A++[y]++S=P++A++([y]++S) by simp,kQ (L:=P) (B:=A) (t:=s-E) (by omega) (by omega)] at w;exact (G5.1 w).le
   ·
    have av:2<=A.length:=by
     rcases tU A.length 2 with h | h
     ·exact υ (show ((A.length:Q) == 1)=W by simp;omega) O
     ·exact h
    have aw:2<=B.length:=by
     rcases tU B.length 2 with h | h
     ·exact υ (show ((B.length:Q) == 1)=W by simp;omega) h2
     ·exact h
    obtain ⟨E,rfl⟩:∃E:X,a=E:=⟨P.length,by omega⟩;obtain ⟨q,rfl⟩:∃q:X,m=q:=⟨P.length+A.length,by omega⟩;obtain ⟨K,rfl⟩:∃K:X,b=K:=⟨P.length+A.length+B.length,by omega⟩;have ab:=mid (i:=E) (j:=K) (by omega);obtain ⟨z,ax⟩:∃z,z=(E+K) / 2:=⟨_,rfl⟩;rw[<-ax] at ab;simp only[ab];have wn:i64.wrap ((z:Q)+(q:Q))=((z+q:X):Q):=Ci (by simp) (by omega) (by omega);simp only[wn];have a2:(P++A++B++S).length=P.length+A.length+B.length+S.length:=by simp;omega
    refine Ei (λx=>∃lo hi:X,x=((lo:Q),(hi:Q))/\lo<=hi/\hi<=z/\hi<=q/\E<=lo/\z+q<=K+lo/\(lo=E\/z+q=K+lo)/\(hi=q\/hi=z)) (λk hk=>?_) ?_
    ·rw[bo];refine ⟨λh=>hk _ ⟨z+q-K,z,?_,?_⟩,λh=>hk _ ⟨E,q,rfl,?_⟩⟩
     ·rw[Ci (x:=((z+q:X):Q)-(K:Q)) (y:=((z+q-K:X):Q)) (by simp at h;omega) (by omega) (by omega)]
     ·simp at h;omega
     ·simp at h;omega
    ·rintro _ ⟨lo,hi,rfl,q1,q2,q3,q4,q5,q6,q7⟩;refine bs_ok (λc=>¬IY (SY p ((P++A++B++S).getD (z+q-1-c) 0)) (SY p ((P++A++B++S).getD c 0))) q1 (by omega) (λf s r T Ζ n hg hn=>?_) (λf s T Ζ n w=>?_)
     ·have G:(s+r) / 2<(P++A++B++S).length:=by omega
      have ad:z+q-1-(s+r) / 2<(P++A++B++S).length:=by omega
      have wp:i64.wrap (((z+q:X):Q)-1)=((z+q-1:X):Q):=Ci (by omega) (by omega) (by omega);simp only;rw[Μ (by simp;omega),mid (by omega),wp,Ci (x:=((z+q-1:X):Q)-(((s+r) / 2:X):Q)) (y:=((z+q-1-(s+r) / 2:X):Q)) (by omega) (by omega) (by omega),Mp rfl ad,ay,Mp rfl G,ay,Ci (x:=(((s+r) / 2:X):Q)+1) rfl (by omega) (by omega)];refine (FX (by omega) (Gk F ad) (Gk F G)).bind λr M=>?_;rw[bo];refine ⟨λh=>hg λg=>?_,λh=>hn λg=>?_⟩
      ·have:=M.2 g;simp at h;omega
      ·simp at h;exact g (M.1 h)
     ·simp only;rw[Κ (by simp)];have we:i64.wrap (((z+q:X):Q)-(s:Q))=((z+q-s:X):Q):=Ci (by omega) (by omega) (by omega);simp only[we];obtain ⟨d,a5⟩:∃d,d=s-E:=⟨_,rfl⟩;obtain ⟨l,a6⟩:∃l,l=z-s:=⟨_,rfl⟩;have la:d<=A.length:=by omega
      have lb:l<=B.length:=by omega
      have eA:A=A.take d++A.drop d:=(Ks _ _).symm;have eB:B=B.take l++B.drop l:=(Ks _ _).symm;have a7:(A.take d).length=d:=by simp;omega
      have a8:(A.drop d).length=A.length-d:=by simp
      have a9:(B.take l).length=l:=by simp;omega
      have bb:(B.drop l).length=B.length-l:=by simp
      have f1:d=0\/B.length<=l\/DG p (A.getD (d-1) 0) (B.getD l 0):=by
       by_cases Γ:d=0
       ·exact .inl Γ
       by_cases Α:B.length<=l
       ·exact .inr (.inl Α)
       rcases n with n | n
       ·omega
       rw[kQ (L:=P++A) (B:=B) (R:=S) (t:=l) (by simp;omega) (by omega),show P++A++B++S=P++A++(B++S) by simp,kQ (L:=P) (B:=A) (t:=d-1) (by omega) (by omega)] at n;exact .inr (.inr n)
      have f2:l=0\/A.length<=d\/DG p (B.getD (l-1) 0) (A.getD d 0):=by
       by_cases Γ:l=0
       ·exact .inl Γ
       by_cases Α:A.length<=d
       ·exact .inr (.inl Α)
       rcases w with w | w
       ·omega
       rw[kQ (L:=P++A) (B:=B) (R:=S) (t:=l-1) (by simp;omega) (by omega),show P++A++B++S=P++A++(B++S) by simp,kQ (L:=P) (B:=A) (t:=d) (by omega) (by omega)] at w;exact .inr (.inr (G5.1 w).le)
      refine Ei (λx=>x=P++A.take d++B.take l++A.drop d++B.drop l++S) (λk hk=>?_) ?_
      ·rw[bo];refine ⟨λh=>?_,λh=>hk _ ?_⟩
       ·simp only[bM,bF] at h;have e:P++A++B++S=(P++A.take d)++A.drop d++B.take l++(B.drop l++S):=by
         simp only[zG];rw[<-zG (B.take l) (B.drop l) S,Ks,<-zG (A.take d) (A.drop d),Ks]
        conv in (P++A++B++S)=>rw[e]
        rw[rot_ok (by simp;omega) (by rw[Ci rfl (by omega) (by omega)];omega) (by rw[Ci rfl (by omega) (by omega)];omega) (by omega) (by omega) (by omega) (by simp;omega),vM,qK (by rw[e];simp;omega)];exact hk _ (by simp)
       ·simp only[bM,bF,yCb] at h;rcases h with h | h
        ·have:A.drop d=[]:=by rw[<-yBg];omega
         have e2:A.take d=A:=by rw[this] at eA;simpa using eA.symm
         rw[this,e2]
         conv=>lhs;rw[eB]
         simp
        ·have:B.take l=[]:=by rw[<-yBg];omega
         have e2:B.drop l=B:=by rw[this] at eB;simpa using eB.symm
         rw[this,e2]
         conv=>lhs;rw[eA]
         simp
      ·rintro _ rfl;refine Ei (λx=>∃Β,x=P++Β++A.drop d++B.drop l++S/\Β.Perm (A.take d++B.take l)/\(Bb p (A.take d)->Bb p (B.take l)->Bb p Β)) (λk hk=>?_) ?_
       ·rw[bo];refine ⟨λh=>?_,λh=>hk _ ⟨A.take d++B.take l,by simp,.refl _,λΑ h4=>?_⟩⟩
        ·simp only[bM,bF] at h;have e:P++A.take d++B.take l++A.drop d++B.drop l++S=P++A.take d++B.take l++(A.drop d++B.drop l++S):=by simp
         have r:=ih P (A.take d) (B.take l) (A.drop d++B.drop l++S) E s z (by rw[<-yBi];omega) (by rw[<-yBi];omega) (by rw[<-e];simp;omega) (λx hx=>F x (by
          rw[<-e] at hx;simp only[lE] at hx ⊢;rcases hx with ((((h | h) | h) | h) | h) | h
          ·exact .inl (.inl (.inl h))
          ·exact .inl (.inl (.inr (KJ h)))
          ·exact .inl (.inr (KJ h))
          ·exact .inl (.inl (.inr (yBr h)))
          ·exact .inl (.inr (yBr h))
          ·exact .inr h)) (by omega) ha (by omega) (by omega)
         rw[<-e] at r;refine r.bind λr M=>?_;obtain ⟨C,rfl,Α,h4⟩:=M;have h5:=Α.length_eq;simp only[Bv] at h5;rw[qK (by simp;omega)];exact hk _ ⟨C,by simp,Α,h4⟩
        ·simp only[bM,bF,yCb] at h;rcases h with h | h
         ·have:A.take d=[]:=by rw[<-yBg];omega
          rw[this];exact h4
         ·have:B.take l=[]:=by rw[<-yBg];omega
          rw[this,Ce];exact Α
       ·rintro _ ⟨Β,rfl,g1,g2⟩;have lC:=g1.length_eq;simp only[Bv] at lC;have aa:∀C2:Z Q,C2.Perm (A.drop d++B.drop l)->Bb p A->Bb p B->∀u∈Β,∀v∈C2,DG p u v:=λC2 g3 sA sB u hu v F=>by
         have hu:=lE.1 (g1.mem_iff.1 hu);have F:=lE.1 (g3.mem_iff.1 F);rcases hu with hu | hu <;> rcases F with F | F
         ·have:=NX.1 (eA▸sA:Bb p (A.take d++A.drop d));exact this.2.2 u hu v F
         ·rcases f1 with f1 | f1 | f1
          ·subst f1;simp at hu
          ·rw[yB4 f1] at F;simp at F
          ·exact Gx sB (.inr (IX sA la (.inr f1) u hu)) v F
         ·rcases f2 with f2 | f2 | f2
          ·rw[f2] at hu;simp at hu
          ·rw[yB4 f2] at F;simp at F
          ·exact Gx sA (.inr (IX sB lb (.inr f2) u hu)) v F
         ·have:=NX.1 (eB▸sB:Bb p (B.take l++B.drop l));exact this.2.2 u hu v F
        have af:∀C2:Z Q,C2.Perm (A.drop d++B.drop l)->(Β++C2).Perm (A++B):=λC2 g3=>by
         refine (H3 g1 g3).trans ?_
         conv=>rhs;rw[eA,eB]
         simp only[zG];refine yCt _ ?_;rw[<-zG,<-zG (A.drop d)];exact Z.Perm.append_right _ yBZ
        rw[bo];refine ⟨λh=>?_,λh=>aT.2 ⟨Β++(A.drop d++B.drop l),by simp,af _ (.refl _),λsA sB=>?_⟩⟩
        ·simp only[bM,bF] at h;have e:P++Β++A.drop d++B.drop l++S=(P++Β)++A.drop d++B.drop l++S:=rfl;have r:=ih (P++Β) (A.drop d) (B.drop l) S z ((z+q-s:X):Q) K (by rw[<-yBi];omega) (by rw[<-yBi];omega) (by simp;omega) (λx hx=>F x (by
          simp only[lE] at hx ⊢;rcases hx with (((h | h) | h) | h) | h
          ·exact .inl (.inl (.inl h))
          ·rcases lE.1 (g1.mem_iff.1 h) with h | h
           ·exact .inl (.inl (.inr (KJ h)))
           ·exact .inl (.inr (KJ h))
          ·exact .inl (.inl (.inr (yBr h)))
          ·exact .inl (.inr (yBr h))
          ·exact .inr h)) (by omega) (by simp;omega) (by simp;omega) (by simp;omega)
         refine r.bind λr M=>?_;obtain ⟨C2,rfl,Α,h4⟩:=M;refine aT.2 ⟨Β++C2,by simp,af _ Α,λsA sB=>?_⟩;exact NX.2 ⟨g2 (sA.SE _) (sB.SE _),h4 (sA.Qw _) (sB.Qw _),aa _ Α sA sB⟩
        ·refine NX.2 ⟨g2 (sA.SE _) (sB.SE _),?_,aa _ (.refl _) sA sB⟩;simp only[bM,bF,yCb] at h;rcases h with h | h
         ·have:A.drop d=[]:=by rw[<-yBg];omega
          rw[this];exact sB.Qw _
         ·have:B.drop l=[]:=by rw[<-yBg];omega
          rw[this,Ce];exact sA.Qw _
end Go.Plain
end
section
namespace Go.Plain
open Go.Abs
def sU{Ε R:Type}{b:(Ε->Δ R)->Ε->Δ R}{Η:R->Prop}{n:X}{x:Ε}(a:0<n)(h:∀f,f=bE b (n-1)->bI (b f x) Η):bI (bE b n x) Η:=by obtain⟨k,rfl⟩:∃k,n=k+1:=⟨n-1,by omega⟩;exact h _ rfl
def Tx{p:Z K3}{N:X}{P A S:Z Q}{a E:Q}(ha:a=P.length)(hE:E=P.length+A.length)(hN:1100<=N)(hl:(P++A++S).length<=1000)(G:∀x∈P++A++S,Uc p x):bI (bE (λf8 (K:Q×Z Q)=>if(Θ (K.1<E))=W then bE (λab (e:Q×Z Q)=>jn (λ(ad:Λ)=>if ad=W then(aH e.2 (i64.wrap (e.1-1))).bind λL=>(aH e.2 e.1).bind λaf=>(aH e.2 e.1).bind λa2=>(aH (e.2.set e.1.toNat L) (i64.wrap (e.1-1))).bind λa5=>ab ((i64.wrap (e.1-1)),((e.2.set e.1.toNat L).set (i64.wrap (e.1-1)).toNat af))else f8 ((i64.wrap (K.1+1)),e.2)) λM=>if(Θ (e.1>a))=W then(aH e.2 e.1).bind λak=>(aH e.2 (i64.wrap (e.1-1))).bind λan=>((aH p ak).bind λq=>(aH p an).bind λs=>(zaJ N ([q.1,q.2.1,q.2.2]:Z Q) ([s.1,s.2.1,s.2.2]:Z Q)).bind λav=>Y av).bind λaw=>M (Θ (aw<0))else M Ι) N (K.1,K.2)else Y K.2) N ((i64.wrap (a+1)),P++A++S)) λr=>∃C,r=P++C++S/\C.Perm A/\Bb p C:=by have ax:=hl;simp only[Bv]at ax;rw[Ci (x:=a+1) (y:=a+1) rfl (by omega) (by omega)];refine lpM (I:=λx=>∃C T,x.2=P++C++T++S/\(C++T).Perm A/\Bb p C/\x.1=a+(if A=[]then 1 else(C.length:Q))/\(A≠[]->0<C.length)) (m:=λx=>(E+1-x.1).toNat) (λx f hI hr=>?_) ?_ (by simp;omega);{obtain ⟨i,row⟩:=x;obtain⟨C,T,rfl,hp,hs,hi,h0⟩:=hI;simp only at hi hr ⊢;have l:=hp.length_eq;simp only[Bv]at l;by_cases hA:A=[];{subst hA;simp only[Υ,yB2]at hi l hE;rw[Κ (by simp;omega),aT];have hC:C=[]:=by{rw[<-yBg];omega};have hT:T=[]:=by{rw[<-yBg];omega};subst hC hT;exact⟨[],by simp,.refl _,hs⟩};rw[Κ hA]at hi;have a6:=h0 hA;cases T with|nil=>simp only[yB2]at l;rw[Κ (by simp;omega),aT];exact⟨C,by simp,by simpa using hp,hs⟩|cons y T=>simp only[Ft]at l;rw[Μ (by simp;omega)];refine lpM (I:=λz=>∃Ζ σ,z=(a+(Ζ.length:Q),P++Ζ++y::(σ++T++S))/\Ζ++σ=C/\∀v∈σ,DG p y v) (m:=λz=>(z.1-a).toNat) (λz g hz a0=>?_) ⟨C,[],by rw[hi];simp,by simp,by simp⟩ (by simp;omega);obtain⟨Ζ,σ,rfl,j,O⟩:=hz;have t:=IZ τ j;simp only[Bv]at t;have F:∀x∈P++Ζ++y::(σ++T++S),Uc p x:=λx Γ=>G x (by simp only[lE,gJ]at Γ ⊢;have n:x∈Ζ\/x∈σ\/x=y\/x∈T->x∈A:=λh=>hp.mem_iff.1 (by rw[<-j];simp only[lE,gJ];rcases h with h|h|h|h;{exact .inl (.inl h)};{exact .inl (.inr h)};{exact .inr (.inl h)};exact .inr (.inr h));rcases Γ with(h|h)|h|(h|h)|h;{exact .inl (.inl h)};{exact .inl (.inr (n (.inl h)))};{exact .inl (.inr (n (.inr (.inr (.inl h)))))};{exact .inl (.inr (n (.inr (.inl h))))};{exact .inl (.inr (n (.inr (.inr (.inr h)))))};exact .inr h);have done:(∀u∈Ζ,DG p u y)->bI (f (i64.wrap (i+1),P++Ζ++y::(σ++T++S))) (λr=>∃C,r=P++C++S/\C.Perm A/\Bb p C):=λhu=>by{rw[Ci (x:=i+1) rfl (by omega) (by omega)];refine hr _ ⟨Ζ++y::σ,T,by simp,?_,?_,?_,λ_=>by simp;omega⟩ (by simp;omega);{refine Z.Perm.trans ?_ hp;rw[<-j];have:(Ζ++y::σ).Perm (Ζ++σ++[y]):=by{rw[zG];exact yCt _ (yBZ (l₁:=[y]))};have:=this.append_right T;simpa using this};{have Α:=NX.1 (j▸hs:Bb p (Ζ++σ));refine NX.2 ⟨Α.1,yBz.2 ⟨O,Α.2.1⟩,λu h v G=>?_⟩;rcases gJ.1 G with rfl|G;{exact hu u h};exact Α.2.2 u h v G};rw[Κ hA];simp;omega};refine Ei (λx=>(x=W->∃d v,Ζ=d++[v]/\DG p y v)/\(x=Ι->∀u∈Ζ,DG p u y)) (λk hk=>?_) (λx Γ=>?_);{rw[bo];refine⟨λh=>?_,λh=>hk _ ⟨by simp,λ_ u hu=>?_⟩⟩;{simp at h;rcases B3 Ζ with rfl|⟨d,v,rfl⟩;{simp at h};simp only[yCs]at F hk h ⊢;simp only[yCs,Bv,Ft,yB2]at t;have w:i64.wrap (a+((d++[v]).length:X)-1)=((P++d).length:X):=Ci (by simp;omega) (by simp;omega) (by simp;omega);have e1:P++(d++[v])++y::(σ++T++S)=(P++d)++v::(y::(σ++T++S)):=by{simp};rw[w,eL (by simp;omega),ay,show aH (P++(d++[v])++y::(σ++T++S)) ((P++d).length:X)=Y v from by rw[e1];exact eL rfl,vM];refine(FX (by omega) (F y (by simp)) (F v (by simp))).bind λr Β=>hk _ ⟨λh=>⟨d,v,rfl,(Β.1 (by simpa using h)).le⟩,λh u hu=>?_⟩;have aa:DG p v y:=λg=>by{have:=Β.2 g;simp at h;omega};simp only[yCs]at j;have Α:=NX.1 (j▸hs:Bb p ((d++[v])++σ));have h2:=NX.1 Α.1;rcases lE.1 hu with hu|hu;{exact(h2.2.2 u hu v (by simp)).trans aa};simp at hu;subst hu;exact aa};simp at h;have:Ζ=[]:=by{rw[<-yBg];omega};subst this;simp at hu};rw[bo];refine⟨λh=>?_,λh=>done (Γ.2 (by simpa using h))⟩;obtain⟨d,v,rfl,a1⟩:=Γ.1 h;simp only[Bv,Ft,yB2]at t;have w:i64.wrap (a+((d++[v]).length:X)-1)=((P++d).length:X):=Ci (by simp;omega) (by simp;omega) (by simp;omega);have e1:P++(d++[v])++y::(σ++T++S)=(P++d)++v::(y::(σ++T++S)):=by{simp};have e3:P++(d++[v])++v::(σ++T++S)=(P++d)++v::(v::(σ++T++S)):=by{simp};simp only;rw[w,show aH (P++(d++[v])++y::(σ++T++S)) ((P++d).length:X)=Y v from by rw[e1];exact eL rfl,vM,eL (by simp;omega),vM,vM,iR (by simp;omega),e3,eL (by simp),vM,iR (by simp)];refine a0 _ ⟨d,v::σ,by simp;omega,by rw[<-j];simp,λu hu=>?_⟩ (by simp;omega);rcases gJ.1 hu with rfl|hu;{exact a1};exact O u hu};refine⟨A.take 1,A.drop 1,by simp only[zG];rw[<-zG (A.take 1),Ks],by rw[Ks],?_,?_,?_⟩;{cases A with|nil=>exact .nil|cons=>simp[Bb]};{cases A<;>simp};intro(h:A≠[]);have:=yBi.2 h;simp;omega
def SU(n:X):Z Q:=(Z.range n).map λ(i:X)=>(i:Q)
theorem pV(n:X):(SU n).length=n:=by simp[SU]
def upn_get{n i:X}(h:i<n):(SU n)[i]'(by rw[pV];exact h)=(i:Q):=by simp[SU]
def Nc{p:Z K3}{x:Q}(h:x∈SU p.length):Uc p x:=by simp only[SU,fT,yCk]at h;obtain⟨i,a,rfl⟩:=h;exact⟨by omega,by omega⟩
def Pz{α:Type}{z:α}{n:X}(h:n<=1000):Di z (n:Q) (n:Q)=Y (μ n z):=by unfold Di;simp;omega
def GA{N:X}{p:Z K3}(hp:p.length<40)(hN:2000<=N):bI (zfH N p) λr=>r.Perm (SU p.length)/\Bb p r:=by unfold zfH;rw[Pz (by omega),ay];refine fy p.length (λi x=>x=((i:Q),(SU p.length).take i++μ (p.length-i) 0)) (λi x f O m d=>?_) (λx f m=>?_) (by simp) (by omega);{subst m;have T:((SU p.length).take i).length=i:=by{simp[pV];omega};have e:μ (p.length-i) (0:Q)=0::μ (p.length-(i+1)) 0:=by{rw[show p.length-i=(p.length-(i+1))+1 by omega,xAi]};simp only;rw[Μ (by simp;omega),e,eL (by rw[T]),vM,iR (by rw[T]),bT (by omega)];refine d _ (by rw[yCg,fe (by rw[pV];exact O),upn_get O];simp)};subst m;rw[yBy (by rw[pV];exact cU _),yC6,xAj,Ce];simp only;rw[Κ (by simp),pV];generalize m:SU p.length=x;have u:x.length=p.length:=by{rw[<-m,pV]};have g:∀a∈x,Uc p a:=λa h=>Nc (by rw[m];exact h);suffices key:∀o:Δ (Z Q),(bI o λr=>r.Perm x/\Bb p r)->bI ((o.bind λv=>Y v).bind λq=>EQ p.length q.length<|Y q) λr=>r.Perm x/\Bb p r by{refine key _ ?_;have w:i64.wrap (20+20)=40:=rfl;have y:i64.wrap (2*20)=40:=rfl;have z:i64.wrap (20*2)=40:=rfl;have F:i64.wrap (0+20)=20:=rfl;by_cases aa:p.length<20;{refine sU (by omega) λf t=>?_;simp only;rw[Κ (by simp;omega)];have Ζ:=Tx (p:=p) (N:=N) (P:=[]) (A:=x) (S:=[]) (a:=0) (E:=p.length) rfl (by simp;omega) (by omega) (by simp;omega) (by simpa using g);rw[vJ,Ce]at Ζ;refine Ζ.bind λr d=>?_;obtain⟨C,rfl,j,n⟩:=d;rw[qK (by simpa using j.length_eq.symm)];refine sU (by omega) λf t=>?_;rw[Κ (by simp;omega),aT];exact⟨by simpa using j,by simpa using n⟩};refine sU (by omega) λf t=>?_;simp only;have s:x=x.take 20++x.drop 20:=(Ks _ _).symm;have Γ:(x.take 20).length=20:=by{simp;omega};have Α:(x.drop 20).length=p.length-20:=by{simp;omega};rw[Μ (by simp;omega)];have Β:=Tx (p:=p) (N:=N) (P:=[]) (A:=x.take 20) (S:=x.drop 20) (a:=0) (E:=20) rfl (by rw[Γ];simp) (by omega) (by simp;omega) (by simpa using g);rw[vJ,<-s]at Β;refine Β.bind λr d=>?_;obtain⟨C,rfl,j,n⟩:=d;have K:C.length=20:=by{rw[j.length_eq,Γ]};rw[vJ,qK (by simp;omega),w,t];refine sU (by omega) λf t=>?_;simp only;rw[Κ (by simp;omega)];have L:∀a∈C++x.drop 20,Uc p a:=λa h=>g a (by rcases lE.1 h with h|h;{exact KJ (j.mem_iff.1 h)};exact yBr h);have r2:=Tx (p:=p) (N:=N) (P:=C) (A:=x.drop 20) (S:=[]) (a:=20) (E:=p.length) (by rw[K];rfl) (by rw[K,Α];omega) (by omega) (by simp;omega) (by simpa using L);rw[Ce]at r2;refine r2.bind λr d=>?_;obtain⟨D,rfl,h3,h4⟩:=d;have lD:D.length=p.length-20:=by{rw[h3.length_eq,Α]};have l:(C++D).Perm x:=by{rw[s];exact H3 j h3};rw[Ce,qK (by simp;omega)];refine sU (by omega) λf2 M=>?_;simp only;by_cases ab:p.length=20;{rw[Κ (by simp;omega),aT];have:D=[]:=by{rw[<-yBg];omega};subst this;exact⟨l,by simpa using n⟩};rw[Μ (by simp;omega),y];refine sU (by omega) λf3 ad=>?_;simp only;rw[Κ (by simp;omega),F];refine Ei (λr=>r.Perm x/\Bb p r) (λk hk=>?_) (λr d=>?_);{rw[Μ (by simp;omega)];have r3:=Qn (p:=p) N [] C D [] 0 20 p.length (by rw[<-yBi];omega) (by rw[<-yBi];omega) (by simp;omega) (λa h=>g a (l.mem_iff.1 (by simpa using h))) (by omega) rfl (by rw[K];rfl) (by simp;omega);rw[vJ,Ce]at r3;refine r3.bind λr d=>?_;obtain⟨G,rfl,h5,h6⟩:=d;have lG:=h5.length_eq;rw[qK (by simp at lG ⊢;omega)];exact hk _ ⟨by simpa using h5.trans l,by simpa using h6 n h4⟩};rw[z,M];refine sU (by omega) λf4 af=>?_;simp only;rw[Κ (by simp;omega),aT];exact d};intro o ⟨r,ho,j,n⟩;rw[ho,ay,ay,qK (by rw[j.length_eq,u])];exact aT.2 ⟨j,n⟩
end Go.Plain
end
