/- Lemmas. -/
import Derived.Test.YtcndmfkgdaipaaaGreatTyPure
import Derived.KernelRfl
import Derived.Laws.BitsLemmas
set_option linter.all false
open _root_ renaming Bool->Μ,Bool.or_eq_false_iff->ts,ByteArray->Χ,Classical.not_forall->t6,Int->Ζ,Int.ediv_nonneg->D3,Int.fdiv->π,Int.mul_comm->ll,List->Β,List.getElem_mem->H5,List.getElem_of_mem->ϔ,List.getElem_set->B8,List.take_succ_eq_append_getElem->κ,Nat->Ε,Nat.eq_zero_or_pos->y7,Option->Δ,True->B7,absurd->ό,Decidable.decide->Θ,Bool.false->Ι,if_neg->Κ,if_pos->Λ,if_true->Υ,ne_eq->eu,not_or->ϟ,Option.some->Α,Bool.true->Γ
open Go.IntKind (i64 u64)
section
namespace Go.Plain
open Go.Abs
instance glT:Gl:={ ok:=λ_ _=>B7,mono:=λ_ _=>trivial }
theorem wr{x:Ζ}(a:-9223372036854775808<=x)(d:x<9223372036854775808):i64.wrap x=x:=by rw[IntKind.wrap_i64];omega
theorem bY{i:Ε}(h:i<1000000):i64.wrap ((i:Ζ)+1)=((i+1:Ε):Ζ):=by grind [wr]
def wp1{i:Ε}(h:i+1<1000000):i64.wrap (((i+1:Ε):Ζ)-1)=(i:Ζ):=by grind [wr]
theorem bZ{α:Type}{l:Β α}{i:Ε}(h:i<l.length):aC l (i:Ζ)=Α l[i]:=by unfold aC;simp_all
theorem Dc{α:Type}{l:Β α}{x:Ζ}(d:0<=x)(h:x<l.length):∃a:x.toNat<l.length,aC l x=Α (l[x.toNat]'a):=by have a:x.toNat<l.length:=by{omega};refine ⟨a,?_⟩;unfold aC;simp_all
theorem cP{i n:Ε}(h:i<n):Θ ((i:Ζ)<(n:Ζ))=Γ:=by simp_all
theorem eQ{n:Ε}:Θ ((n:Ζ)<(n:Ζ))=Ι:=by simp
theorem sF{α:Type}{l m:Β α}(h:l.length+m.length<=1000000):bM l m=Α (l++m):=by unfold bM;simp_all
theorem vm{α:Type}{m:Β α}(h:m.length<=1000000):bM [] m=Α m:=by grind [sF]
theorem dQ{X R:Type}(r:X->Δ R)(b:(X->Δ R)->Δ R):jn r b=b r:=rfl
def bR{β:Type}(o:Δ β)(Q:β->Prop):Prop:=∃r,o=Α r/\Q r
abbrev fh(o:Δ Μ)(P:Prop):Prop:=bR o λb=>b=Γ↔P
section
variable{α β γ Y:Type}{o:Δ α}{P Q:α->Prop}
theorem bR.mono(h:bR o P)(i:∀r,P r->Q r):bR o Q:=by obtain ⟨r,j,s⟩:=h;exact ⟨r,j,i r s⟩
def bR.bind{f:α->Δ β}{R:β->Prop}(h:bR o P)(i:∀r,P r->bR (f r) R):bR (o.bind f) R:=by obtain ⟨r,rfl,j⟩:=h;simp_all
theorem aZ{r:α}:bR (Α r) Q↔Q r:=by simp[bR]
def kG{f:α->Δ β}{R:β->Prop}:bR (o.bind f) R↔bR o λr=>bR (f r) R:=by cases o <;> simp[bR]
theorem bB{c:Prop}[Decidable c]{a b:Δ α}:bR (if c then a else b) Q↔(c->bR a Q)/\(¬c->bR b Q):=by grind
theorem bR.eq{r:α}(h:bR o λx=>x=r):o=Α r:=by obtain ⟨_,h,rfl⟩:=h;exact h
end
section
variable{X R α:Type}{b:(X->Δ R)->X->Δ R}{Q:R->Prop}
theorem gR(n:Ε)(Inv:Ε->X->Prop)(hs:∀i x f,i<n->Inv i x->(∀d,Inv (i+1) d->bR (f d) Q)->bR (b f x) Q) (g:∀x f,Inv n x->bR (b f x) Q) {x0:X} (j:Inv 0 x0) {N:Ε} (l:n<N):bR (bI b N x0) Q:=by have:∀k i x,i<=n->n<i+k->Inv i x->bR (bI b k x) Q:=by{intro k;induction k with|zero=>omega|succ k ih=>intro i x h m hi;rcases Yl h with a | rfl;{exact hs i x _ a hi λd e=>ih (i+1) d a (by omega) e};exact g x _ hi};grind
end
section
variable{R α:Type}{b:(Ζ->Δ R)->Ζ->Δ R}{Q:R->Prop}
theorem xE(l:Β α)(A:Ε->α->Prop) (hs:∀i (f:Ζ->Δ R) (h:i<l.length),(∀j (a:j<l.length),j<i->A j l[j])->(A i l[i]->bR (f ((i+1:Ε):Ζ)) Q)->bR (b f (i:Ζ)) Q) (k:∀f,(∀j (a:j<l.length),A j l[j])->bR (b f (l.length:Ζ)) Q) {N:Ε} (d:l.length<N):bR (bI b N 0) Q:=gR l.length (fun i x=>x=(i:Ζ)/\∀j (a:j<l.length),j<i->A j l[j]) (fun i x f hi ⟨e,g⟩ m=>by grind) (fun x f ⟨e,g⟩=>by simp_all) ⟨rfl,fun j a h=>ό h (by omega)⟩ d
end
def ER{α:Type}{l:Β α}{A:α->Prop}(h:∀j (d:j<l.length),A l[j]):∀a∈l,A a:=λa e=>by grind [ϔ]
def Qv{α:Type}{b:(Ζ->Δ Μ)->Ζ->Δ Μ}(l:Β α)(A:α->Prop)(P:Prop)(j:P->∀a∈l,A a) (hs:∀(i:Ε)(f:Ζ->Δ Μ)(h:i<l.length)(Q:Μ->Prop),(A l[i]->bR (f ((i+1:Ε):Ζ)) Q)->(¬A l[i]->Q Ι)->bR (b f (i:Ζ)) Q) (d:∀f,(∀a∈l,A a)->fh (b f (l.length:Ζ)) P) {N:Ε} (e:l.length<N):fh (bI b N 0) P:=xE l (λ_ a => A a) (λi f h _ g => hs i f h _ g λk => by grind) (λf h=>d f (ER h)) e
structure iA (s:aW):Prop where
 nodes:s.aq.length<=40
 parts:s.aH.length<=20
 gn:s.am.length<=20
 part:∀p∈s.aH,p.length<=40
 queue:∀q∈s.am,q.aS.length<=40
def few07(s:aW):bR (zfB 5000 s) λr=>r=Γ->iA s:=by simp only[zfB,bB,aZ];refine ⟨by simp,λh=>?_⟩;simp only[gV,bH,ϟ,Ζ.not_lt] at h;obtain ⟨⟨g,j⟩,k⟩:=h;refine xE s.aH (λ_ q=>q.length<=40) (λi f h _ a=>?_) (λf d=>?_) (by omega);{simp only[cP h,Υ,bZ h,aw,bY (show i<1000000 by omega),bB,aZ,bH];grind};simp only[eQ,cf,cD];refine xE s.am (λ_ q=>q.aS.length<=40) (λi f h _ a=>?_) (λf e=>?_) (by omega);{simp only[cP h,Υ,bZ h,aw,bY (show i<1000000 by omega),bB,aZ,bH];grind};simp only[eQ,cf,cD,aZ];exact λ_=>⟨by omega,by omega,by omega,ER d,ER e⟩
def few17(l:Β aJ):bR (zfz 5000 l) λr=>r=Γ->l.length<=30/\∀j∈l,j.aE.length<=10:=by simp only[zfz,bB,aZ];refine ⟨by simp,λh=>?_⟩;simp only[bH] at h;refine xE l (λ_ q=>q.aE.length<=10) (λi f h _ d=>?_) (λf a=>?_) (by omega);{simp only[cP h,Υ,bZ h,aw,bY (show i<1000000 by omega),bB,aZ,bH];grind};simp only[eQ,cf,cD,aZ];exact λ_=>⟨by omega,ER a⟩
structure lw (s:aW) (st:bC):Prop where
 spec:iA s
 aT:st.ah.length<=300
 after:∀j∈st.ah,j.aE.length<=10
 cj:st.ai.length<=300
 cy:st.ay.length<=20
 use:st.dx.length<=20
 stamps:st.au.am.length<=20
 shares:∀a∈st.ai,a.aj.length<=40
def lw.sh{s:aW}{st:bC}(h:lw s st):∀a∈st.ai,a.aj.length<=300:=λa i=>ld (h.shares a i) (by decide)
def few23(s:aW)(st:bC):bR (zc8 5000 s st) λr=>r=Γ->lw s st:=by simp only[zc8,dQ];refine (few07 s).bind λr d=>?_;simp only[Υ,aZ,bB];refine ⟨by simp,λh=>?_⟩;refine (few17 st.ah).bind λk a=>?_;simp only[gY,pC] at h;have g:=d h;simp only[bB,aZ];refine ⟨by simp,λh=>?_⟩;simp only[gV,bH,ϟ,Ζ.not_lt,gY,pC] at h;obtain ⟨⟨⟨⟨h,l⟩,m⟩,n⟩,p⟩:=h;have e:=a h;refine xE st.ai (λ_ q=>q.aj.length<=40) (λi f h _ d=>?_) (λf j=>?_) (by omega);{simp only[cP h,Υ,bZ h,aw,bY (show i<1000000 by omega),bB,aZ,bH];grind};simp only[eQ,cf,cD,aZ];exact λ_=>⟨g,ld e.1 (by decide),e.2,by omega,by omega,by omega,by omega,ER j⟩
def QM(a hi x:Ζ):Μ:=Θ (a<=x)&&Θ (x<=hi)
structure aQ (r:aI):Prop where
 HR:0<=r.bQ/\r.bQ<=1048576
 mem:0<=r.Mem/\r.Mem<=1048576
 Kb:0<=r.bU/\r.bU<=1048576
 MA:0<=r.bX/\r.bX<=1048576
def xF(r:aI):fh (zaW 5000 r) (aQ r):=by simp only[zaW,zcu,aZ,aw,bB,bS,bH,cf,HU,fh];refine ⟨λa=>⟨λd=>⟨λe=>⟨λf=>⟨a,d,e,f⟩,λh=>h.MA⟩,λe h=>e h.Kb⟩,λd h=>d h.mem⟩,λa h=>a h.HR⟩
theorem at4x0{a b c d:Ζ}:aC [a,b,c,d] 0=Α a:=rfl
theorem at4x1{a b c d:Ζ}:aC [a,b,c,d] 1=Α b:=rfl
theorem at4x2{a b c d:Ζ}:aC [a,b,c,d] 2=Α c:=rfl
theorem at4x3{a b c d:Ζ}:aC [a,b,c,d] 3=Α d:=rfl
def lpN(l:Β Ζ)(d hi n:Ζ)(e:(l.length:Ζ)=n){E:Δ Μ}{Q:Μ->Prop}(k:¬(∀a∈l,d<=a/\a<=hi)->Q Ι)(g:(∀a∈l,d<=a/\a<=hi)->bR E Q)(j:l.length<5000) : bR (bI (λ(f:Ζ->Δ Μ) (x:Ζ)=>if (Θ (x<n))=Γ then (aC l x).bind λy=>if ((Θ (y<d)) || (Θ (y > hi)))=Γ then Α Ι else f (i64.wrap (x+1)) else E) 5000 0) Q:=by subst e;refine xE l (λ_ a=>d<=a/\a<=hi) (λi f h _ m=>?_) (λf h=>?_) j;{simp only[cP h,Υ,bZ h,aw,bY (show i<1000000 by omega),bB,aZ,gV,bH];grind};simp only[eQ,cf,cD];exact g (ER h)
def BV{a b c d e hi:Ζ}:(∀x∈[a,b,c,d],e<=x/\x<=hi)↔(e<=a/\a<=hi)/\(e<=b/\b<=hi)/\(e<=c/\c<=hi)/\(e<=d/\d<=hi):=by simp
def JB{a b c d hi:Ζ}:(∀x∈[a,b,c],d<=x/\x<=hi)↔(d<=a/\a<=hi)/\(d<=b/\b<=hi)/\(d<=c/\c<=hi):=by simp
def XZ(r:aI):fh (QL 5000 r) (aQ r):=by simp only[QL,gS,aw];refine lpN [r.bQ,r.Mem,r.bU,r.bX] 0 1048576 4 rfl (λh=>?_) (λh=>?_) (by simp);{simp only[cf,HU];exact λv=>h (BV.2 ⟨v.HR,v.mem,v.Kb,v.MA⟩)};rw[aZ];obtain ⟨a,d,e,f⟩:=BV.1 h;exact ⟨λ_=>⟨a,d,e,f⟩,λ_=>rfl⟩
def ca:aI:={ bQ:=0,Mem:=0,bU:=0,bX:=0 }
theorem ib{a b:aI}:aI.beq a b=Γ↔a=b:=by obtain ⟨d,e,f,g⟩:=a;obtain ⟨h,i,j,k⟩:=b;simp[aI.beq]
def Nh(l:Β Ζ):Ε->Ζ|0=>-1|i+1=>l[i]?.getD 0
theorem rz{l:Β Ζ}{i:Ε}(h:i<l.length):Nh l (i+1)=l[i]:=by simp[Nh,h]
def ju(l:Β Ζ)(n:Ζ):Prop:=∀i (h:i<l.length),Nh l i<l[i]/\l[i]<n
theorem ju.nn{l:Β Ζ}{n:Ζ}(h:∀i (hi:i<l.length),Nh l i<l[i]):∀i (hi:i<l.length),0<=l[i]:=by intro i;induction i with|zero=>grind [Nh]|succ i ih=>grind [rz]
theorem ju.mem{l:Β Ζ}{n:Ζ}(h:ju l n):∀x∈l,0<=x/\x<n:=λx j=>by obtain ⟨i,hi,rfl⟩:=jb j;exact ⟨ju.nn (n:=n) (λi hi=>(h i hi).1) i hi,(h i hi).2⟩
def ascending(l:Β Ζ)(n:Ζ)(hl:l.length<99):fh (zfq 5000 l n) (ju l n):=by simp only[zfq];refine gR l.length (λi x=>x=(Nh l i,(i:Ζ))/\∀j (d:j<l.length),j<i->Nh l j<l[j]/\l[j]<n) (λi x f hi a g=>?_) (λx f a=>?_) ⟨rfl,λj d h=>by omega⟩ (by omega);{obtain ⟨rfl,e⟩:=a;simp only[cP hi,Υ,bZ hi,aw,bY (show i<1000000 by omega),bB,aZ,gV,bH];refine ⟨λh=>?_,λh=>g _ ⟨by rw[rz hi],λj d k=>?_⟩⟩;{simp only[cf,HU];intro m;have:=m i hi;omega};grind};obtain ⟨rfl,e⟩:=a;simp only[eQ,cf,cD,aZ,SH];exact λi hi=>e i hi hi
def Gh(l:Β Ζ)(n:Ζ)(hl:l.length<99):fh (zcW 5000 l n) (ju l n):=by simp only[zcW,dQ];refine xE l (λi a=>Nh l i<a/\a<n) (λi f h r e=>?_) (λf h=>?_) (by omega);{have g:Θ ((i:Ζ) > 0)=Θ (0<i):=by{simp};simp only[cP h,Υ,bZ h,aw,bY (show i<1000000 by omega),bB,aZ,bH,g,cf,cD];have bad:¬(Nh l i<l[i]/\l[i]<n)->(False↔ju l n):=λj=>by{simp only[HU];exact λd=>j (d i h)};refine ⟨λk=>?_,λk=>⟨λp=>bad (by omega),λp=>⟨λq=>?_,λq=>?_⟩⟩⟩;{simp only[HU];intro d;have:=(d.mem _ (bG h)).1;omega};{obtain ⟨m,rfl⟩:∃m,i=m+1:=⟨i-1,by omega⟩;rw[wp1 (show m+1<1000000 by omega),bZ (show m<l.length by omega)];rw[rz (by omega)] at bad e;simp only[aw,bB,bH,aZ,cf];simp_all};grind [Nh]};simp only[eQ,cf,cD,aZ,SH];exact h
structure py (s:aW):Prop where
 lo:1<=s.aq.length
 hi:s.aq.length<=16
 ok:∀r∈s.aq,aQ r
def TK(s:aW):fh (fX 5000 s) (py s):=by simp only[fX,bB,aZ];refine ⟨λh=>?_,λh=>?_⟩;{simp only[gV,bH] at h;simp only[cf,HU];grind [py.lo,py.hi]};simp only[gV,bH,ϟ] at h;refine Qv s.aq aQ _ (λk=>k.ok) (λi f a Q e g=>?_) (λf d=>?_) (by omega);{simp only[cP a,Υ,bZ a,aw,bY (show i<1000000 by omega)];refine (XZ _).bind λr j=>?_;simp only[bB,aZ,gY,pC];grind};simp only[eQ,cf,cD,aZ,SH];exact ⟨by omega,by omega,d⟩
def Xl(s:aW)(hs:iA s):fh (zdc 5000 s) (py s):=by have:=hs.nodes;simp only[zdc];refine Qv s.aq aQ _ (λk=>k.ok) (λi f a Q e g=>?_) (λf d=>?_) (by omega);{simp only[cP a,Υ,bZ a,aw,bY (show i<1000000 by omega)];refine (xF _).bind λr j=>?_;simp only[bB,aZ,gY,pC];grind};simp only[eQ,cf,cD,CE,aw,aZ,bS,bH];exact ⟨λh=>⟨by omega,by omega,d⟩,λh=>by grind [py.lo,py.hi]⟩
structure px (s:aW):Prop where
 lo:1<=s.aH.length
 hi:s.aH.length<=8
 ok:∀p∈s.aH,1<=p.length/\ju p s.aq.length
def Rg(s:aW)(hs:iA s):fh (fR 5000 s) (px s):=by simp only[fR,dQ,bB,aZ];refine ⟨λh=>?_,λh=>?_⟩;{simp only[gV,bH] at h;simp only[cf,HU];grind [px.lo,px.hi]};simp only[gV,bH,ϟ] at h;refine Qv s.aH (λp=>1<=p.length/\ju p s.aq.length) _ (λk=>k.ok) (λi f a Q j d=>?_) (λf g=>?_) (by omega);{have:=hs.part _ (bG a);simp only[cP a,Υ,bZ a,aw,bY (show i<1000000 by omega),bB,aZ,bH];refine ⟨λe=>d (by omega),λe=>?_⟩;refine (ascending _ _ (by omega)).bind λr l=>?_;simp only[bB,aZ,gY,pC];grind};simp only[eQ,cf,cD,aZ,SH];exact ⟨by omega,by omega,g⟩
def XQ(s:aW)(hs:iA s):fh (zdk 5000 s) (px s):=by have:=hs.parts;simp only[zdk,dQ];refine Qv s.aH (λp=>1<=p.length/\ju p s.aq.length) _ (λk=>k.ok) (λi f a Q j d=>?_) (λf g=>?_) (by omega);{have:=hs.part _ (bG a);simp only[cP a,Υ,bZ a,aw,bY (show i<1000000 by omega),bB,aZ,bH];refine ⟨λe=>d (by omega),λe=>?_⟩;refine (Gh _ _ (by omega)).bind λr l=>?_;simp only[bB,aZ,gY,pC];grind};simp only[eQ,cf,cD,CE,aw,aZ,bS,bH];exact ⟨λh=>⟨by omega,by omega,g⟩,λh=>by grind [px.lo,px.hi]⟩
structure Ca (s:aW) (q:ya):Prop where
 part:0<=q.Part/\q.Part<s.aH.length
 Cy:ju q.aS s.aS
 aT:1<=q.jX/\q.jX<=256
 run:1<=q.jJ/\q.jJ<=256
 user:1<=q.ff/\q.ff<=256
 qos:0<=q.dE/\q.dE<=100
structure rS (s:aW):Prop where
 lo:1<=s.am.length
 hi:s.am.length<=8
 ok:∀q∈s.am,Ca s q
def NC(s:aW)(hs:iA s):fh (zfF 5000 s) (rS s):=by simp only[zfF,dQ,bB,aZ];refine ⟨λh=>?_,λh=>?_⟩;{simp only[gV,bH] at h;simp only[cf,HU];grind [rS.lo,rS.hi]};simp only[gV,bH,ϟ] at h;refine Qv s.am (Ca s) _ (λk=>k.ok) (λi f a Q l d=>?_) (λf m=>?_) (by omega);{have:=hs.queue _ (bG a);simp only[cP a,Υ,bZ a,aw,bY (show i<1000000 by omega),cf,cD];rw[bB];refine ⟨λe=>?_,λe=>?_⟩;{simp only[gV,bH] at e;rw[aZ];exact d λk=>by have:=k.part;omega};simp only[gV,bH,ϟ] at e;refine (ascending _ _ (by omega)).bind λr n=>?_;rw[bB];refine ⟨λg=>?_,λg=>?_⟩;{grind [aZ,Ca.Cy]};simp only[gY,pC] at g;refine lpN [_,_,_] 1 256 3 rfl (λp=>d λk=>p (JB.2 ⟨k.aT,k.run,k.user⟩)) (λq=>?_) (by simp);obtain ⟨t,u,v⟩:=JB.1 q;rw[bB];refine ⟨λj=>?_,λj=>?_⟩;{simp only[gV,bH] at j;rw[aZ];exact d λk=>by have:=k.qos;omega};simp only[gV,bH,ϟ] at j;exact l ⟨by omega,n.1 g,t,u,v,by omega⟩};simp only[eQ,cf,cD,aZ,SH];exact ⟨by omega,by omega,m⟩
def SY(s:aW)(hs:iA s):fh (zcP 5000 s) (rS s):=by have:=hs.gn;simp only[zcP,dQ];refine Qv s.am (Ca s) _ (λk=>k.ok) (λi f d Q j a=>?_) (λf l=>?_) (by omega);{have:=hs.queue _ (bG d);simp only[cP d,Υ,bZ d,aw,bY (show i<1000000 by omega),cf,cD];rw[bB];refine ⟨λe=>?_,λe=>?_⟩;{simp only[gV,bH] at e;rw[aZ];exact a λk=>by have:=k.part;omega};simp only[gV,bH,ϟ] at e;refine (Gh _ _ (by omega)).bind λr m=>?_;simp only[CE,aw,bB,aZ,gY,pC,bS,bH,yB5,yBk];refine ⟨λg=>a λk=>by grind [Ca.Cy],λg=>⟨λn=>a λk=>by have:=k.aT;omega,λn=>⟨λp=>a λk=>by have:=k.run;omega,λp=>⟨λq=>a λk=>by have:=k.user;omega,λq=>⟨λt=>a λk=>by have:=k.qos;omega,λt=>?_⟩⟩⟩⟩⟩;exact j ⟨by omega,m.1 g,by omega,by omega,by omega,by omega⟩};simp only[eQ,cf,cD,CE,aw,aZ,bS,bH];exact ⟨λh=>⟨by omega,by omega,l⟩,λh=>by have:=h.lo;have:=h.hi;omega⟩
structure DC (w:MO):Prop where
 age:0<=w.eH/\w.eH<=1000
 size:0<=w.ce/\w.ce<=1000
 qos:0<=w.dE/\w.dE<=1000
 share:0<=w.bg/\w.bg<=1000
def KJ(w:MO):fh (ze8 5000 w) (DC w):=by simp only[ze8];refine lpN [w.eH,w.ce,w.dE,w.bg] 0 1000 4 rfl (λh=>?_) (λh=>?_) (by simp);{simp only[cf,HU];exact λv=>h (BV.2 ⟨v.age,v.size,v.qos,v.share⟩)};rw[aZ];obtain ⟨a,d,e,f⟩:=BV.1 h;exact ⟨λ_=>⟨a,d,e,f⟩,λ_=>rfl⟩
structure bn (s:aW):Prop where
 nodes:py s
 parts:px s
 Cy:1<=s.aS/\s.aS<=8
 gn:rS s
 weights:DC s.ae
 decay:1<=s.bE/\s.bE<=16
 mode:s.Mode=1\/s.Mode=2
 aT:1<=s.ah/\s.ah<=256
 ids:1<=s.fD/\s.fD<=1048576
 vx:1<=s.aF/\s.aF<=65536
 ZN:0<=s.aV/\s.aV<=65536
 keep:1<=s.cK/\s.cK<=16
 QM:1<=s.In/\s.In<=8
 out:1<=s.Out/\s.Out<=16
 cache:0<=s.bF/\s.bF<=16
def s_(s:aW)(hs:iA s):fh (R_ 5000 s) (bn s):=by simp only[R_,Dr];obtain ⟨N,z,m⟩:=TK s;obtain ⟨O,A,n⟩:=Rg s hs;obtain ⟨S,E,q⟩:=NC s hs;obtain ⟨U,F,r⟩:=KJ s.ae;simp only[z,A,E,F,aw];have T:∀(x:Χ),x.toList≠[]->(¬bn s)->bR ((Α x).bind λa=>Α (a.toList == (⟨#[]⟩:Χ).toList)) λb=>b=Γ↔bn s:=λx G W=>by{rw[aw,aZ];simp_all};have step:∀(c:Μ)(x:Χ)(o:Δ Χ),x.toList.isEmpty=Ι->(c=Ι->¬bn s)->(c=Γ->bR (o.bind λa=>Α (a.toList == (⟨#[]⟩:Χ).toList)) λb=>b=Γ↔bn s) -> bR ((if (!c)=Γ then Α x else o).bind λa=>Α (a.toList == (⟨#[]⟩:Χ).toList)) λb=>b=Γ↔bn s:=λc x o G m n=>by{grind};have nb:∀{b:Μ}{p:Prop},(b=Γ↔p)->b=Ι->¬p:=λh e σ=>by{simp_all};refine step _ _ _ (by kernel_rfl) (λe k=>nb m e k.nodes) λc1=>?_;refine step _ _ _ (by kernel_rfl) (λe k=>nb n e k.parts) λK=>?_;refine step _ _ _ (by kernel_rfl) (λe k=>by grind [bn.Cy]) λt=>?_;refine step _ _ _ (by kernel_rfl) (λe k=>nb q e k.gn) λL=>?_;refine step _ _ _ (by kernel_rfl) (λe k=>nb r e k.weights) λM=>?_;refine step _ _ _ (by kernel_rfl) (λe k=>by grind [bn.decay]) λu=>?_;refine step _ _ _ (by kernel_rfl) (λe k=>by grind [bn.mode]) λv=>?_;refine step _ _ _ (by kernel_rfl) (λe k=>by grind [bn.aT]) λw=>?_;refine step _ _ _ (by kernel_rfl) (λe k=>by grind [bn.ids]) λy=>?_;refine step _ _ _ (by kernel_rfl) (λe k=>by grind [bn.vx]) λd=>?_;refine step _ _ _ (by kernel_rfl) (λe k=>by grind [bn.ZN]) λf=>?_;refine step _ _ _ (by kernel_rfl) (λe k=>by grind [bn.keep]) λg=>?_;refine step _ _ _ (by kernel_rfl) (λe k=>by grind [bn.QM]) λi=>?_;refine step _ _ _ (by kernel_rfl) (λe k=>by grind [bn.out]) λj=>?_;refine step _ _ _ (by kernel_rfl) (λe k=>by grind [bn.cache]) λl=>?_;rw[aw,aZ];simp only[yC1,SH];simp only[bS,gV,bH,ot] at t u v w y d f g i j l;exact ⟨m.1 c1,n.1 K,t,q.1 L,r.1 M,u,v,w,y,d,f,g,i,j,l⟩
theorem NP{n:Ε}(hN:15<n){s:aW}{g j m:Μ}(T:zdc n s=Α g)(F:g=Γ↔py s)(U:zdk n s=Α j)(G:j=Γ↔px s)(W:zcP n s=Α m)(K:m=Γ↔rS s):fh (zdb n s) (bn s):=by simp only[zdb,iP,T,U,W,aw,CE,dQ];have d:∀w:Μ,(w=Γ↔DC s.ae)->∀(L:Β Μ)(M:Β Χ),L=[g,j,Θ (1<=s.aS)&&Θ (s.aS<=8),m,w,Θ (1<=s.bE)&&Θ (s.bE<=16),Θ (1<=s.Mode)&&Θ (s.Mode<=2),Θ (1<=s.ah)&&Θ (s.ah<=256),Θ (1<=s.fD)&&Θ (s.fD<=1048576),Θ (1<=s.aF)&&Θ (s.aF<=65536),Θ (0<=s.aV)&&Θ (s.aV<=65536),Θ (1<=s.cK)&&Θ (s.cK<=16),Θ (1<=s.In)&&Θ (s.In<=8),Θ (1<=s.Out)&&Θ (s.Out<=16),Θ (0<=s.bF)&&Θ (s.bF<=16)] -> (∀x∈M,x.toList≠[])->M.length=15 -> bR ((bI (λ(p:Ζ->Δ Χ) (e:Ζ)=>if (Θ (e<15))=Γ then (aC L e).bind λq=>if (!q)=Γ then (aC M e).bind λr=>Α r else p (i64.wrap (e+1)) else Α (⟨#[]⟩:Χ)) n 0).bind λσ=>Α (σ.toList == (⟨#[]⟩:Χ).toList)) λb=>b=Γ↔bn s:=by{intro w N L M Z hM O;have S:L.length=15:=by{simp_all};have t:(15:Ζ)=(L.length:Ζ):=by{omega};have all:(∀x∈L,x=Γ)↔bn s:=by{rw[Z];simp only[gC,Nm,Ni,forall_eq_or_imp,forall_eq,bS,bH];constructor;{rintro ⟨c1,c2,c3,c4,c5,c6,c7,c8,c9,u,v,y,z,A,E⟩;exact ⟨F.1 c1,G.1 c2,c3,K.1 c4,N.1 c5,c6,by omega,c8,c9,u,v,y,z,A,E⟩};intro k;have:=k.mode;exact ⟨F.2 k.nodes,G.2 k.parts,k.Cy,K.2 k.gn,N.2 k.weights,k.decay,by omega,k.aT,k.ids,k.vx,k.ZN,k.keep,k.QM,k.out,k.cache⟩};rw[kG,t];have nil:(⟨#[]⟩:Χ).toList=[]:=by{kernel_rfl};refine xE L (λ_ x=>x=Γ) (λi f h _ hr=>?_) (λf hA=>?_) (by omega);{simp only[cP h,Υ,bZ h,bZ (l:=M) (show i<M.length by omega),aw,bY (show i<1000000 by omega),bB,aZ,gY,pC,nil,ot] at hr ⊢;grind [H5]};simp only[eQ,cf,cD,aZ,yC1,SH];exact all.1 (ER hA)};have a:∀x∈([(⟨#[78,111,100,101,115]⟩:Χ),(⟨#[80,97,114,116,115]⟩:Χ),(⟨#[85,115,101,114,115]⟩:Χ),(⟨#[81,117,101,117,101,115]⟩:Χ),(⟨#[87,101,105,103,104,116,115]⟩:Χ),(⟨#[68,101,99,97,121]⟩:Χ),(⟨#[77,111,100,101]⟩:Χ),(⟨#[74,111,98,115]⟩:Χ),(⟨#[73,100,115]⟩:Χ),(⟨#[86,101,114,115,105,111,110,115]⟩:Χ),(⟨#[76,105,110,103,101,114]⟩:Χ),(⟨#[75,101,101,112]⟩:Χ),(⟨#[73,110]⟩:Χ),(⟨#[79,117,116]⟩:Χ),(⟨#[67,97,99,104,101]⟩:Χ)]:Β Χ),x.toList≠[]:=by{simp_all};split;{rename_i w1;split;{rename_i w2;split;{rename_i w3;refine d _ ?_ _ _ rfl a rfl;simp only[bS,bH] at w1 w2 w3 ⊢;exact ⟨λw4=>⟨w1,w2,w3,w4⟩,λk=>k.share⟩};rename_i w3;refine d _ ?_ _ _ rfl a rfl;simp only[bS,bH] at w3;simp only[cf,HU];exact λk=>w3 k.qos};rename_i w2;refine d _ ?_ _ _ rfl a rfl;simp only[bS,bH] at w2;simp only[cf,HU];exact λk=>w2 k.size};rename_i w1;refine d _ ?_ _ _ rfl a rfl;simp only[bS,bH] at w1;simp only[cf,HU];exact λk=>w1 k.age
def Wv(s:aW)(hs:iA s):fh (zdb 5000 s) (bn s):=by obtain ⟨a,d,e⟩:=Xl s hs;obtain ⟨f,g,h⟩:=XQ s hs;obtain ⟨i,j,k⟩:=SY s hs;grind [NP]
structure CW (L:Β (Ζ×Ζ)) (k:Ζ):Prop where
 lo:0<=k
 hi:k<=64
 fit:∀p∈L,k * p.2<=p.1
 max:k<64->∃p∈L,p.1<(k+1) * p.2
def CW.DD{L:Β (Ζ×Ζ)}{k i:Ζ}(s:∀p∈L,0<=p.2)(h:CW L k)(A:CW L i):k=i:=by have u:∀{a b:Ζ},CW L a->CW L b->¬a<b:=λ{a b} x hb z=>by{obtain ⟨p,j,E⟩:=x.max (by have:=hb.hi;omega);have F:=hb.fit p j;have G:(a+1) * p.2<=b * p.2:=yAU (by omega) (s p j);omega};grind
theorem CW.nil:CW [] 64:=⟨by omega,by omega,by simp,by simp⟩
def qm(n a b:Ζ):Ζ:=if b > 0 then (if a.tdiv b<n then a.tdiv b else n) else n
def CW.step{L:Β (Ζ×Ζ)}{k a b:Ζ}(h:CW L k)(z:∀p∈L,0<=p.2)(s:0<=a)(hb:0<=b):CW (L++[(a,b)]) (qm k a b):=by unfold qm;have u:=h.lo;have x:=h.hi;split;{rename_i j;rw[xAg s];have K:a / b * b<=a:=Ζ.ediv_mul_le a (by omega);have A:a<(a / b+1) * b:=Ζ.lt_ediv_add_one_mul_self a j;have E:0<=a / b:=D3 s (by omega);split;{rename_i F;refine ⟨E,by omega,λp i=>?_,λ_=>⟨(a,b),by simp,A⟩⟩;rcases jI.1 i with i | i;{have:=h.fit p i;have:a / b * p.2<=k * p.2:=yAU (by omega) (z p i);omega};simp_all};rename_i G;refine ⟨u,x,λp i=>?_,λhk=>?_⟩;{rcases jI.1 i with i | i;{exact h.fit p i};simp only[yk] at i;subst i;have:k * b<=a / b * b:=yAU (by omega) (by omega);grind};obtain ⟨p,i,q⟩:=h.max hk;grind};rename_i j;have:b=0:=by{omega};subst this;refine ⟨u,x,λp i=>?_,λhk=>?_⟩;{rcases jI.1 i with i | i;{exact h.fit p i};simp_all};obtain ⟨p,i,q⟩:=h.max hk;grind
theorem TP{n a b:Ζ}(h:b > 0):qm n a b=if a.tdiv b<n then a.tdiv b else n:=by unfold qm;omega
theorem SI{n a b:Ζ}(h:¬b > 0):qm n a b=n:=by unfold qm;omega
def Ha(a b:aI):Β (Ζ×Ζ):=[(a.bQ,b.bQ),(a.Mem,b.Mem),(a.bU,b.bU),(a.bX,b.bX)]
def cN(a b:aI):Ζ:=qm (qm (qm (qm 64 a.bQ b.bQ) a.Mem b.Mem) a.bU b.bU) a.bX b.bX
def tN{a b:aI}(d:aQ a)(hb:aQ b):CW (Ha a b) (cN a b):=by have e:=CW.nil;have f:=e.step (by simp) d.HR.1 hb.HR.1;have g:=f.step (by simp;exact hb.HR.1) d.mem.1 hb.mem.1;have h:=g.step (by simp;exact ⟨hb.HR.1,hb.mem.1⟩) d.Kb.1 hb.Kb.1;have i:=h.step (by simp;exact ⟨hb.HR.1,hb.mem.1,hb.Kb.1⟩) d.MA.1 hb.MA.1;exact i
theorem w1:i64.wrap (0+1)=1:=rfl
theorem w2:i64.wrap (1+1)=2:=rfl
theorem w3:i64.wrap (2+1)=3:=rfl
theorem w4:i64.wrap (3+1)=4:=rfl
theorem wq{a b:Ζ}(d:0<=a/\a<=1048576)(hb:0<b):GZ .i64 a b=Α (a.tdiv b):=by unfold GZ;rw[Κ (by omega)];have e:0<=a / b:=D3 d.1 (by omega);have f:a / b<=a:=Ζ.ediv_le_self b d.1;grind [wr]
def stc(a b:aI):Ε->Ζ|0=>64|1=>qm 64 a.bQ b.bQ|2=>qm (qm 64 a.bQ b.bQ) a.Mem b.Mem|3=>qm (qm (qm 64 a.bQ b.bQ) a.Mem b.Mem) a.bU b.bU|_=>cN a b
def count{a b:aI}(g:aQ a)(hb:aQ b)(p:b≠ca):nh 5000 a b=Α (cN a b):=by obtain ⟨q,h,j⟩:=XZ a;obtain ⟨r,k,l⟩:=XZ b;have m:=j.2 g;have n:=l.2 hb;subst m n;have d:aI.beq b ca=Ι:=by{grind [ib]};simp only[nh,dQ,h,k,aw,QP,cf,cD,yCF,gS];change (if aI.beq b ca=Γ then Α 0 else _)=_;rw[d];simp only[cf,cD];refine bR.eq (gR 4 (λi x=>x=(stc a b i,(i:Ζ))) (λi x f hi e s=>?_) (λx f e=>?_) rfl (by omega));{subst e;rcases (show i=0\/i=1\/i=2\/i=3 by omega) with rfl | rfl | rfl | rfl;{rw[show ((0:Ε):Ζ)=0 from rfl];simp only[show Θ ((0:Ζ)<4)=Γ from rfl,Υ,at4x0,aw,w1,bB,bH];grind [stc,qm,wq,aQ.HR]};{rw[show ((1:Ε):Ζ)=1 from rfl];simp only[show Θ ((1:Ζ)<4)=Γ from rfl,Υ,at4x1,aw,w2,bB,bH];grind [stc,SI,wq,aQ.mem,TP]};{rw[show ((2:Ε):Ζ)=2 from rfl];simp only[show Θ ((2:Ζ)<4)=Γ from rfl,Υ,at4x2,aw,w3,bB,bH];grind [stc,SI,wq,aQ.Kb,TP]};rw[show ((3:Ε):Ζ)=3 from rfl];simp only[show Θ ((3:Ζ)<4)=Γ from rfl,Υ,at4x3,aw,w4,bB,bH];grind [stc,cN,SI,wq,aQ.MA,TP]};subst e;simp only[show Θ (((4:Ε):Ζ)<4)=Ι from rfl,cf,cD,aZ];rfl
def IU{b:aI}(hb:aQ b):QT 5000 b ca=Α (Θ (b=ca)):=by simp only[QT,az];have:=hb.HR;have:=hb.mem;have:=hb.Kb;have:=hb.MA;rw[Μ.eq_iff_iff];simp only[bS,bH];obtain ⟨a,d,e,f⟩:=b;grind [ca]
def Dd{a b:aI}(g:aQ a)(hb:aQ b)(w:b≠ca):zbN 5000 a b=Α (cN a b):=by obtain ⟨T,z,t⟩:=xF a;obtain ⟨U,A,u⟩:=xF b;have E:=t.2 g;have F:=u.2 hb;subst E F;simp only[zbN,dQ,z,A,aw,QP,cf,cD];have G:QT 5000 b ({ bQ:=0,Mem:=0,bU:=0,bX:=0 }:aI)=Α (Θ (b=ca)):=IU hb;rw[G];simp only[aw,w,decide_false,cf,cD];have W:=g.HR;have σ:=g.mem;have Z:=g.Kb;have hl:=g.MA;have l:=hb.HR;have m:=hb.mem;have n:=hb.Kb;have q:=hb.MA;have K:∀p∈Ha a b,0<=p.2:=by{intro p e;simp only[Ha,gC,Nm,Ni] at e;rcases e with rfl | rfl | rfl | rfl;{omega};{omega};{omega};omega};have done:∀k:Ζ,CW (Ha a b) k->k=cN a b:=λk hk=>hk.DD K (tN g hb);have d:∀{i:Ε}{y:Ζ},i<=65->0<=y/\y<=1048576->0<=(i:Ζ) * y/\(i:Ζ) * y<=68157440:=λ{i y} hi v=>by{have t:0<=(i:Ζ) * y:=yBX (by omega) v.1;have u:(i:Ζ) * y<=65 * y:=yAU (by omega) v.1;omega};refine bR.eq (gR 64 (λi x=>x=((i:Ζ),((i+1:Ε):Ζ) * b.bQ,((i+1:Ε):Ζ) * b.Mem,((i+1:Ε):Ζ) * b.bU,((i+1:Ε):Ζ) * b.bX)/\∀p∈Ha a b,(i:Ζ) * p.2<=p.1) (λi x f hi r L=>?_) (λx f r=>?_) ⟨by simp,λp e=>?_⟩ (by omega));{obtain ⟨rfl,s⟩:=r;have m1:=d (i:=i+1) (by omega) l;have m2:=d (i:=i+1) (by omega) m;have m3:=d (i:=i+1) (by omega) n;have m4:=d (i:=i+1) (by omega) q;have j:∀y:Ζ,((i+1:Ε):Ζ) * y+y=((i+1+1:Ε):Ζ) * y:=λy=>by{grind};simp only[show Θ ((i:Ζ)<64)=Γ by grind,Υ,QT,aw,Yn,bB,aZ,bS,bH,bY (show i<1000000 by omega)];rw[wr (by omega) (by omega),wr (by omega) (by omega),wr (by omega) (by omega),wr (by omega) (by omega),j,j,j,j];refine ⟨λh=>L _ ⟨rfl,λp e=>?_⟩,λh=>done _ ⟨by omega,by omega,s,λ_=>?_⟩⟩;{simp only[Ha,gC,Nm,Ni] at e;rcases e with rfl | rfl | rfl | rfl;{simp_all};{simp_all};{simp_all};simp_all};rw[show ((i:Ζ)+1)=((i+1:Ε):Ζ) by omega];by_cases M:a.bQ<((i+1:Ε):Ζ) * b.bQ;{exact ⟨(a.bQ,b.bQ),by simp[Ha],M⟩};by_cases N:a.Mem<((i+1:Ε):Ζ) * b.Mem;{exact ⟨(a.Mem,b.Mem),by simp[Ha],N⟩};by_cases O:a.bU<((i+1:Ε):Ζ) * b.bU;{exact ⟨(a.bU,b.bU),by simp[Ha],O⟩};by_cases S:a.bX<((i+1:Ε):Ζ) * b.bX;{exact ⟨(a.bX,b.bX),by simp[Ha],S⟩};omega};{obtain ⟨rfl,s⟩:=r;simp only[show Θ (((64:Ε):Ζ)<64)=Ι from rfl,cf,cD,aZ];exact done _ ⟨by omega,by omega,s,λh=>by omega⟩};simp only[Ha,gC,Nm,Ni] at e;grind
def Eb(s:aW)(l:Β Ζ)(need:aI):Ζ:=(l.map λn=>cN ((s.aq[n.toNat]?).getD ca) need).sum
def Sc{a b:aI}(d:aQ a)(hb:aQ b):0<=cN a b/\cN a b<=64:=⟨(tN d hb).lo,(tN d hb).hi⟩
def JP{s:aW}{need:aI}(k:bn s)(n:aQ need)(E:need≠ca){l:Β Ζ}(hl:l.length<=300)(p:ju l s.aq.length)(C:aI->Δ Ζ)(r:∀a,aQ a->C a=Α (cN a need)) : bI (λ(t:Ζ×Ζ->Δ Ζ) (g:Ζ×Ζ)=>if (Θ (g.2<(l.length:Ζ)))=Γ then (aC l g.2).bind λu=>(aC s.aq u).bind λv=>(C v).bind λw=>t ((i64.wrap (g.1+w)),(i64.wrap (g.2+1))) else Α g.1) 5000 (0,0)=Α (Eb s l need):=by have z:∀(m:Β Ζ),(∀x∈m,x∈l)->0<=Eb s m need/\Eb s m need<=64 * m.length:=by{intro m;induction m with|nil=>grind [Eb]|cons x m ih=>intro h;have F:=ih λy A=>h y (nk _ A);have q:=p.mem x (h x (rP ..));have d:x.toNat<s.aq.length:=by{omega};have:=Sc (k.nodes.ok (s.aq[x.toNat]) (bG d)) n;grind [Eb]};refine bR.eq (gR l.length (λi x=>x=(Eb s (l.take i) need,(i:Ζ))) (λi x f hi d j=>?_) (λx f d=>?_) (by grind) (by omega));{subst d;have q:=p.mem l[i] (bG hi);obtain ⟨d,e⟩:=Dc q.1 q.2;have c:=Sc (k.nodes.ok (s.aq[l[i].toNat]) (bG d)) n;have b:=z (l.take i) λx d=>PZ d;have G:((l.take i).length:Ζ)<=300:=by{grind};simp only[cP hi,Υ,bZ hi,aw,e,r _ (k.nodes.ok _ (bG d)),bY (show i<1000000 by omega)];rw[wr (by omega) (by omega)];refine j _ ?_;congr 1;rw[HV hi];simp only[Eb,yBG,sv,Β.map_nil,Β.sum_append,yCw,Β.sum_nil,eI d,UJ];omega};subst d;simp only[eQ,cf,cD,aZ,tU]
def Vd{s:aW}(hs:iA s)(k:bn s){q m:Ζ}{need:aI}(d:aQ need)(f:need≠ca):∃b,jH 5000 s q m need=Α b/\zdG 5000 s q m need=Α b:=by obtain ⟨v,h,r⟩:=s_ s hs;have t:=r.2 k;subst t;by_cases j:0<=q/\q<s.am.length/\1<=m;{obtain ⟨u,e⟩:=Dc j.1 j.2.1;have g:=k.gn.ok _ (bG u);obtain ⟨l,n⟩:=Dc g.part.1 g.part.2;have p:=k.parts.ok _ (bG l);have lp:=hs.part _ (bG l);refine ⟨Θ (Eb s (s.aH[s.am[q.toNat].Part.toNat]) need≥m),?_,?_⟩;{simp only[jH,h,aw];rw[Κ (by simp_all),e,aw];simp only[Dn,h,aw];rw[Κ (by have:=g.part;simp;omega),n,aw];have:=JP k d f (ld lp (by decide)) p.2 (λa=>nh 5000 a need) (λa i=>count i d f);rw[this,aw]};simp only[zdG];rw[Λ (by simp_all),e,aw];simp only[h_];rw[Κ (by have:=g.part;simp_all)];simp only[n,aw];have:=JP k d f (ld lp (by decide)) p.2 (λa=>zbN 5000 a need) (λa i=>Dd i d f);rw[this,aw]};refine ⟨Ι,?_,?_⟩;{simp only[jH,h,aw];grind};simp only[zdG];grind
structure BP (j:aJ):Prop where
 st:1<=j.State/\j.State<=6
 start:j.Start≠0->3<=j.State
 fin:j.End≠0->5<=j.State
 ok:j.Ok=Γ->j.State=4\/j.State=5
 kill:j.cO=Γ->j.State=4\/j.State=6
structure du (j:aJ):Prop where
 id:1<=j.Id/\j.Id<=1048576
 user:0<=j.bJ/\j.bJ<=7
 queue:0<=j.Queue/\j.Queue<=7
 many:1<=j.aN/\j.aN<=64
 need:aQ j.aA
 lR:j.aA≠ca
 wall:1<=j.aR/\j.aR<=65536
 jK:j.aE.length<=4
 after:∀d∈j.aE,1<=d.aU/\d.aU<=j.Id-1
 version:1<=j.aL/\j.aL<=281474976710656
 born:0<=j.cJ/\j.cJ<=1099511627776
 start:0<=j.Start/\j.Start<=1099511627776
 fin:0<=j.End/\j.End<=1099511627776
 arr:0<=j.Array/\j.Array<=j.Id
 state:BP j
def name_ok(x:Ζ):bR (ym 5000 x) λr=>r.toList=[]↔¬(1<=x/\x<=6):=by simp only[ym,bB,aZ,ot];have e:(⟨#[]⟩:Χ).toList=[]:=by{kernel_rfl};refine ⟨λh=>?_,λa=>⟨λh=>?_,λd=>⟨λh=>?_,λf=>⟨λh=>?_,λg=>⟨λh=>?_,λi=>⟨λh=>?_,λj=>?_⟩⟩⟩⟩⟩⟩;{simp_all};{simp_all};{simp_all};{simp_all};{simp_all};{simp_all};grind
def QJ(j:aJ):fh (ja 5000 j) (BP j):=by have e:(⟨#[]⟩:Χ).toList=[]:=by{kernel_rfl};simp only[ja,dQ];refine (name_ok j.State).bind λr i=>?_;have no:∀{p:Prop},¬p->(Ι=Γ↔p):=λh=>by{simp[h]};rw[bB];refine ⟨λh=>?_,λh=>?_⟩;{rw[aZ];simp only[e,ot] at h;exact no λk=>i.1 h k.st};simp only[e,ot] at h;have hs:1<=j.State/\j.State<=6:=yC0 λl=>h (i.2 l);simp only[jU,Yw,aw,cf,cD];have fin:∀Q:Prop,(Q↔((j.Ok=Γ->j.State=4\/j.State=5)/\(j.cO=Γ->j.State=4\/j.State=6)->BP j)/\B7)->B7:=λ_ _=>trivial;have a:(j.Start≠0->3<=j.State)->(j.End≠0->5<=j.State)->bR (if ((j.Ok&&(j.State != 4))&&(j.State != 5))=Γ then Α Ι else if ((j.cO&&(j.State != 4))&&(j.State != 6))=Γ then Α Ι else Α Γ) λb=>b=Γ↔BP j:=λf m=>by{simp only[bB,aZ,bS,IS,eu];refine ⟨λq=>no λk=>by have:=k.ok q.1.1;omega,λn=>⟨λq=>no λk=>by have:=k.kill q.1.1;omega,λd=>?_⟩⟩;simp only[SH];refine ⟨hs,f,m,λo=>?_,λo=>?_⟩;{grind};grind};have mid:(j.Start≠0->3<=j.State)->bR (if (j.End != 0)=Γ then (if (!((j.State == 5) || (j.State == 6)))=Γ then Α Ι else if ((j.Ok&&(j.State != 4))&&(j.State != 5))=Γ then Α Ι else if ((j.cO&&(j.State != 4))&&(j.State != 6))=Γ then Α Ι else Α Γ) else if ((j.Ok&&(j.State != 4))&&(j.State != 5))=Γ then Α Ι else if ((j.cO&&(j.State != 4))&&(j.State != 6))=Γ then Α Ι else Α Γ) λb=>b=Γ↔BP j:=λf=>by{rw[bB];refine ⟨λq=>?_,λq=>a f λg=>ό g (by simp_all)⟩;rw[bB];refine ⟨λd=>?_,λd=>a f λ_=>?_⟩;{rw[aZ];simp only[IS,eu,gY,ts,beq_eq_false_iff_ne] at q d;exact no λk=>by have:=k.fin q;omega};grind [ts]};rw[bB];refine ⟨λq=>?_,λq=>mid λg=>ό g (by simp_all)⟩;rw[bB];refine ⟨λd=>?_,λd=>mid λ_=>?_⟩;{rw[aZ];simp only[IS,eu,gV,ot] at q d;exact no λk=>by have:=k.start q;omega};grind
def Du(j:aJ):fh (zfk 5000 j) (du j):=by have no:∀{p:Prop},¬p->bR (Α Ι) (λb=>b=Γ↔p):=λh=>by{rw[aZ];simp[h]};simp only[zfk,QS,aw];have a:∀{l hi x:Ζ}{o:Δ Μ}{P:Prop},(P->l<=x/\x<=hi)->(l<=x/\x<=hi->bR o λb=>b=Γ↔P)->bR (if (Θ (l<=x)&&Θ (x<=hi))=Γ then o else Α Ι) λb=>b=Γ↔P:=λu m=>by{rw[bB];simp only[bS,bH];exact ⟨λh=>m h,λh=>no λp=>h (u p)⟩};refine a (λk=>k.id) λc1=>a (λk=>k.user) λA=>a (λk=>k.queue) λE=>a (λk=>k.many) λF=>?_;refine (XZ j.aA).bind λr v=>?_;rw[bB];refine ⟨λh=>?_,λh=>no λk=>h ?_⟩;rotate_left;{have N:aI.beq j.aA ca=Ι:=by{grind [ib,du.lR]};rw[v.2 k.need];change (Γ&&!(aI.beq j.aA ca))=Γ;simp_all};simp only[bS,gY] at h;have G:=v.1 h.1;have n:j.aA≠ca:=λe=>by{have m:aI.beq j.aA ca=Ι:=h.2;grind [ib]};refine a (λk=>k.wall) λK=>?_;have g:fh (i_ 5000 j) (j.aE.length<=4/\∀d∈j.aE,1<=d.aU/\d.aU<=j.Id-1):=by{simp only[i_,bB,aZ,QS,aw];refine ⟨λh=>?_,λh=>?_⟩;{grind};simp only[bH] at h;refine Qv j.aE (λd=>1<=d.aU/\d.aU<=j.Id-1) _ (λk=>k.2) (λi f w Q u m=>?_) (λf O=>?_) (by omega);{simp only[cP w,Υ,bZ w,aw,bY (show i<1000000 by omega),bB,aZ,gY,yB5,yBk];grind [wr]};simp only[eQ,cf,cD,aZ,SH];grind};refine g.bind λS y=>?_;rw[bB];refine ⟨λh=>?_,λh=>no λk=>h (y.2 ⟨k.jK,k.after⟩)⟩;have z:=y.1 h;refine a (λk=>k.version) λL=>a (λk=>k.born) λM=>a (λk=>k.start) λq=>a (λk=>k.fin) λs=>a (λk=>k.arr) λt=>?_;refine (QJ j).bind λrs hs=>?_;rw[aZ,hs];exact ⟨λk=>⟨c1,A,E,F,G,n,K,z.1,z.2,L,M,q,s,t,k⟩,λk=>k.state⟩
def zC(j:aJ)(hl:j.aE.length<=10):fh (zdg 5000 j) (du j):=by simp only[zdg,dQ,UG,aw];refine Qv j.aE (λd=>1<=d.aU/\d.aU<=i64.wrap (j.Id-1)) _ (λk d a=>by have:=k.after d a;have:=k.id;grind [wr]) (λi f e Q g A=>?_) (λf E=>?_) (by omega);{simp only[cP e,Υ,bZ e,aw,bY (show i<1000000 by omega),bB,aZ,gY,yB5,yBk];grind};simp only[eQ,cf,cD];obtain ⟨F,l,g⟩:=xF j.aA;simp only[l,aw];have no:∀{p:Prop},¬p->(False↔p):=λh=>by{simp[h]};simp only[Υ,cD,bB,aZ,bH,gY,yB5,yBk,bS,cf,pC,IS,eu,gV,ot];refine ⟨λc=>no λk=>by grind [du.jK],λG=>⟨λc=>no λk=>by have:=k.id;omega,λc1=>⟨λc=>no λk=>by have:=k.user;omega,λK=>⟨λc=>no λk=>by have:=k.queue;omega,λL=>⟨λc=>no λk=>by have:=k.many;omega,λM=>⟨λc=>no λk=>(by grind [du.need]),λm=>?_⟩⟩⟩⟩⟩⟩;have v:=g.1 m;have n:QT 5000 j.aA ({ bQ:=0,Mem:=0,bU:=0,bX:=0 }:aI)=Α (Θ (j.aA=ca)):=IU v;simp only[Υ,cD,n,aw,bB,aZ,bH,gY,yB5,yBk,bS,cf,pC,IS,eu,gV,ot];refine ⟨λc=>no λk=>k.lR c,λq=>⟨λc=>no λk=>by have:=k.wall;omega,λN=>⟨λc=>no λk=>by have:=k.state.st;omega,λO=>⟨λc=>no λk=>by have:=k.version;omega,λS=>⟨λc=>no λk=>by have:=k.arr;omega,λr=>⟨λc=>no λk=>by have:=k.born;omega,λs=>⟨λc=>no λk=>by have:=k.start;omega,λt=>⟨λc=>no λk=>by have:=k.fin;omega,λu=>⟨λc=>no λk=>by have:=k.state.start;omega,λw=>⟨λc=>no λk=>by have:=k.state.fin;omega,λx=>⟨λy=>?_,λc=>no λk=>c ?_⟩⟩⟩⟩⟩⟩⟩⟩⟩⟩⟩;{constructor;{intro z;refine ⟨by omega,by omega,by omega,by omega,v,q,by omega,by omega,λd a=>?_,by omega,by omega,by omega,by omega,by omega,⟨by omega,by omega,by omega,λo=>?_,λo=>?_⟩⟩;{grind [wr]};{simp_all};simp_all};intro k;cases hk:j.cO with|false=>simp_all|true=>rcases k.state.kill hk with c | c;{omega};omega};cases hk:j.Ok with|false=>simp_all|true=>rcases k.state.ok hk with c | c;{omega};omega
section
variable{X R:Type}{b:(X->Δ R)->X->Δ R}{Q:R->Prop}
theorem lpM(I:X->Prop)(m:X->Ε)(hs:∀x f,I x->(∀a,I a->m a<m x->bR (f a) Q)->bR (b f x) Q){x0:X}(e:I x0){N:Ε}(h:m x0<N):bR (bI b N x0) Q:=by induction N generalizing x0 with|zero=>omega|succ N ih=>exact hs x0 _ e λa d g=>ih d (by omega)
end
def mid{i j:Ε}(h:i+j<1000000):i64.wrap (π (u64.wrap (i64.wrap ((i:Ζ)+(j:Ζ)))) (2 ^ 1))=(((i+j) / 2:Ε):Ζ):=by rw[wr (x:=(i:Ζ)+(j:Ζ)) (by omega) (by omega)];grind [Go.IntKind.wrap,Go.IntKind.bits]
def bW(l:Β aJ):Prop:=∀i (h:i+1<l.length),l[i].Id<l[i+1].Id
theorem bW.lt{l:Β aJ}(h:bW l):∀{i j:Ε}(s:i<j)(u:j<l.length),l[i].Id<l[j].Id:=by intro i j s u;induction j with|zero=>omega|succ j ih=>have x:=h j u;grind
theorem bW.inj{l:Β aJ}(h:bW l){i j:Ε}(hi:i<l.length)(u:j<l.length)(e:l[i].Id=l[j].Id):i=j:=by rcases Yj i j with s | s | s;{have:=h.lt s u;omega};{exact s};have:=h.lt s hi;omega
structure At (l:Β aJ) (id:Ζ) (r:Ζ):Prop where
 lo:0<=r
 hi:r.toNat<l.length
 is:l[r.toNat].Id=id
theorem At.mem{l:Β aJ}{id r:Ζ}(h:At l id r):∃j∈l,j.Id=id:=⟨l[r.toNat]'h.hi,bG _,h.is⟩
def At.DD{l:Β aJ}{id r i:Ζ}(hs:bW l)(h:At l id r)(j:At l id i):r=i:=by have:=hs.inj h.hi j.hi (by grind [At.is]);have:=h.lo;have:=j.lo;omega
def half{l:Β aJ}(hl:l.length<=300)(hs:bW l)(id:Ζ){R:Type}{Q:R->Prop}(C:aJ->Δ Μ)(n:∀j∈l,C j=Α (Θ (j.Id<id)))(E:Ζ->Δ R) (u:∀i:Ε,i<=l.length->(∀k (h:k<l.length),k<i->l[k].Id<id)->(∀k (h:k<l.length),i<=k->id<=l[k].Id)->bR (E (i:Ζ)) Q) : ∀ (b : (Ζ × Ζ -> Δ R) -> Ζ × Ζ -> Δ R), (∀ f x, b f x = if Θ (x.1 < x.2) = Γ then (aC l (i64.wrap (π (u64.wrap (i64.wrap (x.1 + x.2))) (2 ^ 1)))).bind λa => (C a).bind λc => if c = Γ then f ((i64.wrap ((i64.wrap (π (u64.wrap (i64.wrap (x.1 + x.2))) (2 ^ 1))) + 1)), x.2) else f (x.1, (i64.wrap (π (u64.wrap (i64.wrap (x.1 + x.2))) (2 ^ 1)))) else E x.1) -> bR (bI b 5000 (0,(l.length:Ζ))) Q:=by intro b hb;refine lpM (λx=>∃i j:Ε,x=((i:Ζ),(j:Ζ))/\i<=j/\j<=l.length/\(∀k (h:k<l.length),k<i->l[k].Id<id)/\(∀k (h:k<l.length),j<=k->id<=l[k].Id)) (λx=>(x.2-x.1).toNat) (λx f p m=>?_) ⟨0,l.length,rfl,by omega,by omega,λk h hk=>by omega,λk h hk=>by omega⟩ (by omega);obtain ⟨i,j,rfl,v,r,s,t⟩:=p;rw[hb,bB];dsimp only;refine ⟨λh=>?_,λh=>?_⟩;{simp only[bH] at h;rw[mid (by omega)];have e:(i+j) / 2<l.length:=by{omega};rw[bZ e,aw,n _ (bG e),aw,bB];refine ⟨λg=>?_,λg=>?_⟩;{simp only[bH] at g;rw[bY (by omega)];refine m _ ⟨(i+j) / 2+1,j,rfl,by omega,r,λk hk d=>?_,t⟩ (by omega);rcases Yl (yC7.1 d) with q | q;{have:=hs.lt q e;omega};simp_all};simp only[bH] at g;refine m _ ⟨i,(i+j) / 2,rfl,by omega,by omega,s,λk hk d=>?_⟩ (by omega);rcases Yl d with q | q;{have:=hs.lt q hk;omega};simp_all};simp only[bH] at h;have:i=j:=by{omega};simp_all
def VQ{l:Β aJ}(hl:l.length<=300)(hs:bW l){id:Ζ}(m:0<=id/\id<=1048576)(g:∀j∈l,0<=j.Id/\j.Id<=1048576):bR (oP 5000 l id) λr=>(r.2=Γ↔∃j∈l,j.Id=id)/\(r.2=Γ->At l id r.1):=by simp only[oP,zaE];rw[kG];refine half hl hs id (λj=>Α (Θ (i64.wrap (j.Id-id)<0))) (λj d=>?_) (λi=>if (Θ (i<(l.length:Ζ)))=Γ then (aC l i).bind λn=>(iJ 5000 n id).bind λp=>Α (i,(p == 0)) else Α (i,Ι)) (λi hi s t=>?_) _ (λf x=>rfl);{have:=g j d;rw[wr (by omega) (by omega)];grind};rw[bB];refine ⟨λh=>?_,λh=>?_⟩;{simp only[bH] at h;have a:i<l.length:=by{omega};have:=g _ (bG a);rw[bZ a,aw];simp only[iJ,aw,aZ,ot];rw[wr (by omega) (by omega)];refine ⟨⟨λe=>⟨_,bG a,by omega⟩,λ⟨j,d,e⟩=>?_⟩,λe=>⟨by omega,by omega,by grind⟩⟩;obtain ⟨k,hk,rfl⟩:=jb d;rcases Yj k i with q | q | q;{grind};{simp_all};have:=hs.lt q hk;grind};simp only[bH] at h;simp only[aZ,cf,HU,false_implies,Nz];grind [ϔ]
def kP{l:Β aJ}(hl:l.length<=300)(id:Ζ):bR (QW 5000 l id) λr=>(0<=r↔∃j∈l,j.Id=id)/\(0<=r->At l id r)/\(r<0->r=-1):=by simp only[QW];refine xE l (λ_ j=>j.Id≠id) (λi f h _ a=>?_) (λf h=>?_) (by omega);{simp only[cP h,Υ,bZ h,aw,bY (show i<1000000 by omega),bB,aZ,ot];exact ⟨λe=>⟨⟨λ_=>⟨_,bG h,e⟩,λ_=>by omega⟩,λ_=>⟨by omega,by omega,by simp_all⟩,λh=>by omega⟩,λe=>a e⟩};simp only[eQ,cf,cD,aZ];refine ⟨⟨λh=>by omega,λ⟨j,d,e⟩=>ό e (ER (A:=λj=>j.Id≠id) h j d)⟩,λh=>by omega,λ_=>trivial⟩
structure Fb (l:Β dj) (n:Ζ) (i:Ε) (x:dj):Prop where
 up:Nh (l.map (·.Node)) i<x.Node
 lt:x.Node<n
 lo:1<=x.aN
 hi:x.aN<=64
def br(l:Β dj)(n:Ζ):Prop:=∀i (h:i<l.length),Fb l n i l[i]
def br.node{l:Β dj}{n:Ζ}(h:br l n):ju (l.map (·.Node)) n:=λi hi=>by rw[xM] at hi;rw[Uj];exact ⟨(h i hi).up,(h i hi).lt⟩
theorem br.mem{l:Β dj}{n:Ζ}(h:br l n):∀x∈l,0<=x.Node/\x.Node<n/\1<=x.aN/\x.aN<=64:=λx j=>by have s:=h.node.mem x.Node (jp.2 ⟨x,j,rfl⟩);obtain ⟨i,hi,rfl⟩:=jb j;have u:=h i hi;exact ⟨s.1,s.2,u.lo,u.hi⟩
theorem tD{l:Β dj}{i:Ε}(h:i<l.length):Nh (l.map (·.Node)) (i+1)=l[i].Node:=by grind [rz]
def pZ(l:Β dj)(n:Ζ)(hl:l.length<=300):fh (zfN 5000 l n) (br l n):=by simp only[zfN];refine gR l.length (λi x=>x=(Nh (l.map (·.Node)) i,(i:Ζ))/\∀j (e:j<l.length),j<i->Fb l n j l[j]) (λi x f hi a m=>?_) (λx f a=>?_) ⟨rfl,λj e h=>by omega⟩ (by omega);{obtain ⟨rfl,g⟩:=a;simp only[cP hi,Υ,bZ hi,aw,bY (show i<1000000 by omega),bB,aZ,gV,bH];refine ⟨λh=>?_,λh=>m _ ⟨by rw[tD hi],λj e d=>?_⟩⟩;{simp only[cf,HU];intro p;have q:=p i hi;have r:=q.up;have s:=q.lt;have t:=q.lo;have u:=q.hi;omega};rcases Yl (yC7.1 d) with k | k;{simp_all};subst k;exact ⟨by omega,by omega,by omega,by omega⟩};obtain ⟨rfl,g⟩:=a;simp only[eQ,cf,cD,aZ,SH];exact λi hi=>g i hi hi
def Dy(l:Β dj)(n:Ζ)(hl:l.length<=300):fh (zbx 5000 l n) (br l n):=by simp only[zbx,dQ];refine xE l (λi a=>Fb l n i a) (λi f h v e=>?_) (λf h=>?_) (by omega);{have g:Θ ((i:Ζ) > 0)=Θ (0<i):=by{simp};simp only[cP h,Υ,bZ h,aw,bY (show i<1000000 by omega),bB,aZ,bH,g,cf,cD];have bad:¬(Fb l n i l[i])->(False↔br l n):=λj=>by{simp only[HU];exact λd=>j (d i h)};refine ⟨λp=>?_,λp=>⟨λq=>bad λk=>by have:=k.lt;omega,λq=>⟨λr=>bad λk=>by have:=k.lo;omega,λr=>⟨λs=>bad λk=>by have:=k.hi;omega,λs=>⟨λt=>?_,λt=>?_⟩⟩⟩⟩⟩;{simp only[HU];intro d;have:=(d.mem _ (bG h)).1;omega};{obtain ⟨m,rfl⟩:∃m,i=m+1:=⟨i-1,by omega⟩;rw[wp1 (show m+1<1000000 by omega),bZ (show m<l.length by omega)];simp only[aw,bB,bH,aZ,cf];exact ⟨λu=>bad λk=>by have:=k.up;grind [tD],λu=>e ⟨by grind [tD],by omega,by omega,by omega⟩⟩};have:i=0:=by{omega};subst this;exact e ⟨by grind [Nh],by omega,by omega,by omega⟩};simp only[eQ,cf,cD,aZ,SH];exact h
def kN(l:Β dj):Ζ:=(l.map (·.aN)).sum
theorem tot_bd{l:Β dj}(h:∀x∈l,1<=x.aN/\x.aN<=64):0<=kN l/\kN l<=64 * l.length:=by induction l with|nil=>simp[kN]|cons x l ih=>have:=ih λy a=>h y (nk _ a);grind [kN]
theorem Qf{l:Β dj}{i:Ε}(h:i<l.length):kN (l.take (i+1))=kN (l.take i)+l[i].aN:=by grind [κ,kN]
def PJ{l:Β dj}{n:Ζ}(hl:l.length<=300)(h:br l n):pH 5000 l=Α (kN l):=by simp only[pH];refine bR.eq (gR l.length (λi x=>x=(kN (l.take i),(i:Ζ))) (λi x f hi a e=>?_) (λx f a=>?_) (by simp[kN]) (by omega));{subst a;have q:=h.mem _ (bG hi);have b:=tot_bd (l:=l.take i) λx a=>(h.mem x (PZ a)).2.2;have g:((l.take i).length:Ζ)<=300:=by{rw[DU];omega};have d:Yp 5000 l[i].aN 0 64=Α l[i].aN:=by{simp only[Yp];grind};simp only[cP hi,Υ,bZ hi,aw,d,bY (show i<1000000 by omega)];grind [wr,Qf]};subst a;simp only[eQ,cf,cD,aZ,tU]
def XA{l:Β dj}{n:Ζ}(hl:l.length<=300)(h:br l n):zem 5000 l=Α (kN l):=by simp only[zem,dQ];refine bR.eq (gR l.length (λi x=>x=(kN (l.take i),(i:Ζ))) (λi x f hi a d=>?_) (λx f a=>?_) (by simp[kN]) (by omega));{subst a;have q:=h.mem _ (bG hi);have b:=tot_bd (l:=l.take i) λx a=>(h.mem x (PZ a)).2.2;have e:((l.take i).length:Ζ)<=300:=by{grind};simp only[cP hi,Υ,bZ hi,aw,bY (show i<1000000 by omega)];rw[Κ (by simp_all),Λ (by grind),wr (by omega) (by omega)];grind [Qf]};subst a;simp only[eQ,cf,cD,aZ,tU]
def Nr(l:Β Ζ)(hl:l.length<=300)(x:Ζ):fh (zcp 5000 l x) (x∈l):=by simp only[fh,zcp,zeI];rw[kG];refine xE l (λ_ y=>x≠y) (λi f h _ a=>?_) (λf h=>?_) (by omega);{simp only[cP h,Υ,bZ h,aw,bY (show i<1000000 by omega),bB,ot];refine ⟨λe=>?_,λe=>a e⟩;simp only[aZ,bH];simp_all};simp only[eQ,cf,cD,aZ,bH];exact ⟨λh=>by omega,λd=>ό rfl (ER (A:=λy=>x≠y) h x d)⟩
def ref_has(l:Β Ζ)(hl:l.length<=300)(x:Ζ):fh (zfw 5000 l x) (x∈l):=by simp only[zfw];refine xE l (λ_ y=>y≠x) (λi f h _ d=>?_) (λf h=>?_) (by omega);{simp only[cP h,Υ,bZ h,aw,bY (show i<1000000 by omega),bB,ot,aZ,SH];grind};simp only[eQ,cf,cD,aZ,HU];exact λa=>ό rfl (ER (A:=λy=>y≠x) h x a)
structure ke (s:aW) (j:aJ) (l:Β dj):Prop where
 shares:br l s.aq.length
 UN:kN l=j.aN
 q:0<=j.Queue/\j.Queue<s.am.length
 part:∀x∈l,x.Node∈(s.aH[((s.am[j.Queue.toNat]?).getD default).Part.toNat]?).getD []
def NN{s:aW}(hs:iA s)(k:bn s)(j:aJ)(l:Β dj)(hl:l.length<=300):fh (gO 5000 s j l) (ke s j l):=by have no:∀{p:Prop},¬p->bR (Α Ι) (λb=>b=Γ↔p):=λh=>by{rw[aZ];simp[h]};simp only[gO,dQ];refine (pZ l _ hl).bind λr g=>?_;rw[bB];refine ⟨λh=>?_,λh=>?_⟩;{simp only[Υ];exact no λk=>by grind [ke.shares]};simp only[gY,pC] at h;have S:=g.1 h;rw[PJ hl S,aw,bB];refine ⟨λq=>no λk=>by grind [ke.UN],λq=>?_⟩;have t:kN l=j.aN:=by{simp_all};rw[bB];refine ⟨λu=>no λk=>by have:=k.q;grind,λu=>?_⟩;have a:0<=j.Queue/\j.Queue<s.am.length:=by{simp_all};obtain ⟨d,e⟩:=Dc a.1 a.2;have m:=k.gn.ok _ (bG d);obtain ⟨v,w⟩:=Dc m.part.1 m.part.2;have lp:=hs.part _ (bG v);have y:(s.aH[((s.am[j.Queue.toNat]?).getD default).Part.toNat]?).getD []=s.aH[s.am[j.Queue.toNat].Part.toNat]:=by{simp_all};rw[e,aw,w,aw];refine Qv l (λx=>x.Node∈s.aH[s.am[j.Queue.toNat].Part.toNat]) _ (λk x d=>by rw[<-y];exact k.part x d) (λi f n Q z A=>?_) (λf E=>?_) (by omega);{simp only[cP n,Υ,bZ n,aw,bY (show i<1000000 by omega)];refine (Nr _ (ld lp (by decide)) _).bind λr g=>?_;simp only[bB,aZ,gY,pC];grind};simp only[eQ,cf,cD,aZ,SH];exact ⟨S,t,a,by simp_all⟩
def PX{s:aW}(hs:iA s)(k:bn s)(j:aJ)(l:Β dj)(hl:l.length<=300):fh (zdK 5000 s j l) (ke s j l):=by have no:∀{p:Prop},¬p->bR (Α Ι) (λb=>b=Γ↔p):=λh=>by{rw[aZ];simp[h]};simp only[zdK,dQ];refine (Dy l _ hl).bind λr g=>?_;rw[bB];refine ⟨λh=>?_,λh=>?_⟩;{simp only[Υ];exact no λk=>by grind [ke.shares]};simp only[gY,pC] at h;have S:=g.1 h;rw[XA hl S,aw,bB];refine ⟨λt=>no λk=>by have:=k.UN;have:=k.q;grind,λt=>?_⟩;have m:kN l=j.aN/\0<=j.Queue/\j.Queue<s.am.length:=by{simp_all};have a:=m.2;obtain ⟨d,e⟩:=Dc a.1 a.2;have n:=k.gn.ok _ (bG d);obtain ⟨u,v⟩:=Dc n.part.1 n.part.2;have lp:=hs.part _ (bG u);have w:(s.aH[((s.am[j.Queue.toNat]?).getD default).Part.toNat]?).getD []=s.aH[s.am[j.Queue.toNat].Part.toNat]:=by{simp_all};rw[e,aw,v,aw];refine Qv l (λx=>x.Node∈s.aH[s.am[j.Queue.toNat].Part.toNat]) _ (λk x d=>by rw[<-w];exact k.part x d) (λi f q Q y z=>?_) (λf A=>?_) (by omega);{simp only[cP q,Υ,bZ q,aw,bY (show i<1000000 by omega)];refine (ref_has _ (ld lp (by decide)) _).bind λr g=>?_;simp only[bB,aZ,gY,pC];grind};simp only[eQ,cf,cD,aZ,SH];exact ⟨S,m.1,a,by simp_all⟩
def cmp:Ε->aI->Ζ|0,r=>r.bQ|1,r=>r.Mem|2,r=>r.bU|_,r=>r.bX
theorem yc{r:aI}:aQ r↔∀c,0<=cmp c r/\cmp c r<=1048576:=by constructor;{intro h c;match c with|0=>exact h.HR|1=>exact h.mem|2=>exact h.Kb|_+3=>exact h.MA};intro h;exact ⟨h 0,h 1,h 2,h 3⟩
def eJ{a b:aI}(h:∀c,cmp c a=cmp c b):a=b:=by obtain ⟨d,e,f,g⟩:=a;obtain ⟨i,j,k,l⟩:=b;have m:=h 0;have n:=h 1;have p:=h 2;have q:=h 3;grind [cmp]
def fG(a b:aI):aI:={ bQ:=a.bQ-b.bQ,Mem:=a.Mem-b.Mem,bU:=a.bU-b.bU,bX:=a.bX-b.bX }
def De(a b:aI):aI:={ bQ:=a.bQ+b.bQ,Mem:=a.Mem+b.Mem,bU:=a.bU+b.bU,bX:=a.bX+b.bX }
def mulR(n:Ζ)(a:aI):aI:={ bQ:=n * a.bQ,Mem:=n * a.Mem,bU:=n * a.bU,bX:=n * a.bX }
theorem Dz(c:Ε)(a b:aI):cmp c (fG a b)=cmp c a-cmp c b:=by match c with | 0=>rfl | 1=>rfl | 2=>rfl | _+3=>rfl
theorem xX(c:Ε)(a b:aI):cmp c (De a b)=cmp c a+cmp c b:=by match c with | 0=>rfl | 1=>rfl | 2=>rfl | _+3=>rfl
theorem CD(c:Ε)(n:Ζ)(a:aI):cmp c (mulR n a)=n * cmp c a:=by match c with | 0=>rfl | 1=>rfl | 2=>rfl | _+3=>rfl
theorem QX(c:Ε):cmp c ca=0:=by match c with | 0=>rfl | 1=>rfl | 2=>rfl | _+3=>rfl
theorem Ft{a:Ζ}(h:a.natAbs<2 ^ 53):B_ a=Α a:=by unfold B_;simp_all
def IX{a b c d:Ζ}(e:a.natAbs<2 ^ 53)(hb:b.natAbs<2 ^ 53)(f:c.natAbs<2 ^ 53)(g:d.natAbs<2 ^ 53) : bR (zd9 5000 (a,b) (c,d)) λr=>(r.2=0↔aQ ⟨a,b,c,d⟩)/\(r.2=0->r.1=⟨a,b,c,d⟩):=by simp only[zd9,nU,Ft e,Ft hb,Ft f,Ft g,aw];refine (XZ _).bind λr h=>?_;simp only[bB,aZ,gY,pC];grind
def iL{n x:Ζ}(a:0<=n/\n<=64)(d:0<=x/\x<=1048576):0<=n * x/\n * x<=67108864:=by have e:0<=n * x:=yBX a.1 d.1;have f:n * x<=64 * x:=yAU a.2 d.1;omega
def PV{a:aI}{n:Ζ}(d:aQ a)(m:1<=n/\n<=64):bR (rN 5000 a n) λr=>(r.2=0↔aQ (mulR n a))/\(r.2=0->r.1=mulR n a):=by simp only[rN];obtain ⟨p,i,j⟩:=XZ a;have k:=j.2 d;subst k;have e:0<=n/\n<=64:=by{omega};simp only[i,aw,QP,yCF];rw[Κ (by simp_all)];by_cases g:a=ca;{subst g;rw[Λ (by exact ib.2 rfl),aZ];have:mulR n ca=ca:=by{simp[mulR,ca]};rw[this];exact ⟨⟨λ_=>⟨by simp[ca],by simp[ca],by simp[ca],by simp[ca]⟩,λ_=>rfl⟩,λ_=>rfl⟩};rw[Κ (show ¬(aI.beq a ({ bQ:=0,Mem:=0,bU:=0,bX:=0 }:aI)=Γ) from λh=>g (ib.1 h)),Κ (by grind)];have f:∀{x:Ζ},0<=x/\x<=1048576->zz x n=Α (x * n):=λ{x} q=>by{unfold zz;grind};have s:=iL e d.HR;have t:=iL e d.mem;have u:=iL e d.Kb;have v:=iL e d.MA;simp only[zdE,aw,f d.HR,f d.mem,f d.Kb,f d.MA];rw[ll a.bQ n,ll a.Mem n,ll a.bU n,ll a.bX n];refine (IX (by omega) (by omega) (by omega) (by omega)).bind λr l=>?_;rw[aZ];exact l
def ZV{a b:aI}(d:aQ a)(hb:aQ b):bR (Cf 5000 a b) λr=>(r.2=0↔aQ (fG a b))/\(r.2=0->r.1=fG a b):=by simp only[Cf,dQ];obtain ⟨m,f,g⟩:=XZ a;have h:=g.2 d;subst h;obtain ⟨n,i,j⟩:=XZ b;have k:=j.2 hb;subst k;have e:∀{x y:Ζ},0<=x/\x<=1048576->0<=y/\y<=1048576->zM x y=Α (x-y):=λ{x y} p q=>by{unfold zM;grind};simp only[f,i,aw,QP,cf,cD,zdE,e d.HR hb.HR,e d.mem hb.mem,e d.Kb hb.Kb,e d.MA hb.MA];have:=d.HR;have:=d.mem;have:=d.Kb;have:=d.MA;have:=hb.HR;have:=hb.mem;have:=hb.Kb;have:=hb.MA;refine (IX (by omega) (by omega) (by omega) (by omega)).bind λr l=>?_;rw[aZ];exact l
def dD(l:Β dj)(i:Ζ):Ζ:=(l.map λx=>if x.Node=i then x.aN else 0).sum
def nW{l:Β dj}{k:Ε}(h:k<l.length)(i:Ζ):dD (l.take (k+1)) i=dD (l.take k) i+if l[k].Node=i then l[k].aN else 0:=by grind [κ,dD]
theorem tx{l:Β dj}(h:∀x∈l,0<=x.aN)(i:Ζ):0<=dD l i:=by induction l with|nil=>simp[dD]|cons x l ih=>grind [dD]
def Fj{l m:Β dj}(i:Ζ):dD (l++m) i=dD l i+dD m i:=by simp[dD]
def Zx{l:Β dj}(h:∀x∈l,0<=x.aN)(k:Ε)(i:Ζ):dD (l.take k) i<=dD l i:=by have:=Fj (l:=l.take k) (m:=l.drop k) i;rw[Lx] at this;have:=tx (l:=l.drop k) (λx a=>h x (yBq a)) i;omega
theorem pB{l:Β dj}{n:Ζ}(h:br l n)(i:Ζ):0<=dD l i/\dD l i<=64:=by refine ⟨tx (λx d=>by have:=h.mem x d;omega) i,?_⟩;have a:∀k,k<=l.length->(dD (l.take k) i<=64/\(dD (l.take k) i≠0->i<=Nh (l.map (·.Node)) k)):=by{intro k;induction k with|zero=>grind [dD]|succ k ih=>intro hk;obtain ⟨e,f⟩:=ih (by omega);have s:=h k (by omega);have s1:=s.up;have g:=s.lt;have j:=s.lo;have m:=s.hi;rw[nW (by omega),tD (show k<l.length by omega)];omega};have:=(a l.length (cR _)).1;simp_all
theorem TR{l:Β dj}{n:Ζ}(hl:l.length<=300)(h:br l n)(i:Ζ):zcT 5000 l i=Α (dD l i):=by simp only[zcT,dQ];refine bR.eq (gR l.length (λk x=>x=(dD (l.take k) i,(k:Ζ))) (λk x f hi a g=>?_) (λx f a=>?_) (by simp[dD]) (by omega));{subst a;have q:=h.mem _ (bG hi);have b:=tx (l:=l.take k) (λx a=>by have:=h.mem x (PZ a);omega) i;have j:=Zx (λx a=>by have:=h.mem x a;omega) k i;have m:=pB h i;have e:=nW hi i;simp only[cP hi,Υ,bZ hi,aw,bY (show k<1000000 by omega),bB,ot];refine ⟨λd=>?_,λd=>g _ ?_⟩;{rw[Λ d] at e;grind [wr]};simp_all};subst a;simp only[eQ,cf,cD,aZ,tU]
def qW(a:bL)(i:Ε)(r:aI):aI:=fG r (mulR (dD a.aj i) a.aA)
def vD(F:Β aI)(a:bL):Prop:=∀i (h:i<F.length),aQ (qW a i F[i])
structure sQ (F:Β aI) (a:bL) (G:Β aI):Prop where
 len:G.length=F.length
 cn:∀i (h:i<G.length),G[i]=qW a i (F[i]'(by omega))
def Xm{a:bL}{F:Β aI}(hF:F.length<=300)(hl:a.aj.length<=300)(N:br a.aj F.length)(E:aQ a.aA)(S:∀r∈F,aQ r) : bR (zb4 5000 a F) λr=>(r.2=0↔vD F a)/\(r.2=0->sQ F a r.1):=by simp only[zb4,zbL,vm (show F.length<=1000000 by omega),aw];have nn:∀x∈a.aj,0<=x.aN:=λx p=>by{have:=N.mem x p;omega};refine gR a.aj.length (λk x=>x.1=(k:Ζ)/\x.2.length=F.length/\(∀r∈x.2,aQ r)/\∀i (h:i<x.2.length) (j:i<F.length),x.2[i]=fG F[i] (mulR (dD (a.aj.take k) i) a.aA)) (λk x f hk p T=>?_) (λx f p=>?_) ⟨rfl,rfl,S,λi h j=>?_⟩ (by omega);{obtain ⟨U,G⟩:=x;obtain ⟨rfl,g,m,d⟩:=p;dsimp only at g m d ⊢;have q:=N.mem _ (bG hk);have O:a.aj[k].Node.toNat<G.length:=by{omega};have u:a.aj[k].Node.toNat<F.length:=by{omega};have K:((a.aj[k].Node.toNat:Ε):Ζ)=a.aj[k].Node:=by{omega};have W:=nW hk a.aj[k].Node;rw[Λ rfl] at W;have le:=Zx nn (k+1) a.aj[k].Node;have n0:=tx (l:=a.aj.take k) (λx p=>nn x (PZ p)) a.aj[k].Node;have L:=d _ O u;rw[K] at L;have bad:(∃c,cmp c G[a.aj[k].Node.toNat]-a.aj[k].aN * cmp c a.aA<0)->¬vD F a:=λ⟨c,w⟩ y=>by{have M:=yc.1 (y _ u) c;rw[qW,Dz,CD,K] at M;rw[L,Dz,CD] at w;have z:0<=cmp c a.aA:=(yc.1 E c).1;have h3:(dD (a.aj.take k) a.aj[k].Node+a.aj[k].aN) * cmp c a.aA<=dD a.aj a.aj[k].Node * cmp c a.aA:=yAU (by omega) z;grind};simp only[cP hk,Υ,bZ hk,aw,bY (show k<1000000 by omega)];refine (PV E q.2.2).bind λr s=>?_;simp only[bB,aZ,IS,eu,WU];refine ⟨λh=>⟨⟨λj=>ό j h,λy=>?_⟩,λj=>ό j h⟩,λh=>?_⟩;{exfalso;refine bad ?_ y;have n:¬aQ (mulR a.aj[k].aN a.aA):=λv=>h (s.1.2 v);rw[yc] at n;obtain ⟨c,w⟩:=t6.1 n;refine ⟨c,?_⟩;rw[CD] at w;have M:=iL (show 0<=a.aj[k].aN/\a.aj[k].aN<=64 by omega) (yc.1 E c);grind [yc,H5]};have σ:=s.2 h;have Z:=s.1.1 h;obtain ⟨aa,e⟩:=Dc (l:=G) (x:=a.aj[k].Node) (by omega) (by omega);rw[e,aw,σ];refine (ZV (m _ (bG O)) Z).bind λr2 t=>?_;simp only[aw,bB,aZ,IS,eu,WU];refine ⟨λj=>⟨⟨λz=>ό z j,λy=>?_⟩,λz=>ό z j⟩,λj=>?_⟩;{exfalso;refine bad ?_ y;have n:¬aQ (fG G[a.aj[k].Node.toNat] (mulR a.aj[k].aN a.aA)):=λv=>j (t.1.2 v);rw[yc] at n;obtain ⟨c,w⟩:=t6.1 n;refine ⟨c,?_⟩;rw[Dz,CD] at w;have M:=iL (show 0<=a.aj[k].aN/\a.aj[k].aN<=64 by omega) (yc.1 E c);grind [yc,H5]};have e2:=t.2 j;have v2:=t.1.1 j;refine T _ ⟨rfl,by simp_all,λr ab=>?_,λi hi ad=>?_⟩;{grind};dsimp only at hi ⊢;rw[yB0] at hi;rw[B8];have A:=nW hk (i:Ζ);split;{rename_i ei;subst ei;rw[e2,L];rw[Λ K.symm] at A;rw[A];refine eJ λc=>?_;rw[Dz,Dz,Dz,CD,CD,CD,Ζ.add_mul,K];omega};grind};{obtain ⟨U,G⟩:=x;obtain ⟨rfl,g,m,d⟩:=p;dsimp only at g m d ⊢;simp only[eQ,cf,cD,aZ,tU,SH,true_implies] at d ⊢;refine ⟨λi h=>?_,g,λi h=>d i h (by omega)⟩;have:=m _ (bG (show i<G.length by omega));rw[d i (by omega) h] at this;exact this};refine eJ λc=>?_;rw[Dz,CD];simp[dD]
theorem JQ{a:bL}(h:a.aj.length<=1000000):jF 5000 a=Α a:=by simp only[jF,zbJ,vm h,aw]
structure wN (M:Β (Ζ×bL)) (F:Β aI) (a:bL):Prop where
 Fe:1<=a.aU/\a.aU<=1048576
 some':a.aj≠[]
 shares:br a.aj F.length
 need:aQ a.aA
 free:dB M a.aU=none
 fits:vD F a
def Mr{M:Β (Ζ×bL)}{a:bL}{F:Β aI}(g:F.length<=300)(hl:a.aj.length<=300)(i:∀r∈F,aQ r) : bR (za3 5000 M a F) λr=>(r.2.1=0↔wN M F a)/\(r.2.1=0->r.1=lI M a.aU a/\sQ F a r.2.2):=by simp only[za3,dQ,Υ,cf,cD];have no:∀{p:Prop}{x:Β (Ζ×bL)×Ζ×Β aI}{q:Prop},¬p->x.2.1≠0->bR (Α x) (λr=>(r.2.1=0↔p)/\(r.2.1=0->r.1=lI M a.aU a/\sQ F a r.2.2)):=λ{p x q} l m=>by{grind [aZ]};rw[bB];refine ⟨λh=>?_,λh=>?_⟩;{simp only[gV,bH,ot] at h;refine no (q:=B7) (λt=>?_) (by simp);have:=t.Fe;rcases h with h | h;{omega};exact t.some' (yAT (by omega))};simp only[gV,bH,ot,ϟ] at h;refine (pZ _ _ hl).bind λr j=>?_;rw[bB];refine ⟨λe=>no (q:=B7) (λt=>by grind [wN.shares]) (by simp),λe=>?_⟩;simp only[gY,pC] at e;have S:=j.1 e;refine (XZ a.aA).bind λn f=>?_;rw[bB];refine ⟨λe=>no (q:=B7) (λt=>by grind [wN.need]) (by simp),λe=>?_⟩;simp only[gY,pC] at e;have V:=f.1 e;cases k:dB M a.aU with|some v=>exact no (q:=B7) (λt=>by grind [wN.free]) (by simp)|none=>simp only[oel];refine (Xm g hl S V i).bind λs d=>?_;rw[bB];refine ⟨λe=>?_,λe=>?_⟩;{simp only[IS,eu] at e;exact no (q:=B7) (λt=>e (d.1.2 t.fits)) e};simp only[IS,eu,WU] at e;rw[JQ (by omega),aw,aZ];refine ⟨⟨λ_=>⟨by omega,λu=>?_,S,V,k,d.1.1 e⟩,λ_=>rfl⟩,λ_=>⟨rfl,d.2 e⟩⟩;simp_all
def dq{p:Prop}(h:¬p):bR (Α Ι) (λb=>b=Γ↔p):=by grind [aZ]
def rZ{p:Prop}(h:p):bR (Α Γ) (λb=>b=Γ↔p):=by grind [aZ]
structure Rq (s:aW) (st:bC):Prop where
 now:0<=st.aM/\st.aM<=1099511627776
 next:1<=st.Next/\st.Next<=s.fD+1
 book:1<=st.cw/\st.cw<=281474976710656
def Tg{s:aW}(k:bn s)(st:bC):fh (kc 5000 s st) (Rq s st):=by have f:=k.ids;simp only[kc,zdR,aw,fh];rw[wr (x:=s.fD+1) (by omega) (by omega)];simp only[bB,aZ,bS,bH,cf,HU];exact ⟨λa=>⟨λd=>⟨λe=>⟨a,d,e⟩,λh=>h.book⟩,λd h=>d h.next⟩,λa h=>a h.now⟩
def jL(x:Ζ):Ζ:=if x=3 then 1 else if x=4 then 2 else if x=5\/x=6 then 3 else 0
def Hm(x:Ζ):0<=jL x/\jL x<=3:=by unfold jL;split <;> (try split) <;> (try split) <;> omega
theorem extra_ok(x:Ζ):pR 5000 x=Α (jL x):=by simp only[pR,Yw,aw,ot,gV];grind [jL]
structure d_ (s:aW) (st:bC) (j:aJ):Prop where
 ok:du j
 next:j.Id<st.Next
 user:j.bJ<s.aS
 queue:j.Queue<s.am.length
 born:j.cJ<=st.aM
 start:j.Start<=st.aM
 fin:j.End<=st.aM
 version:j.aL<=s.aF+jL j.State
def Mx(l:Β aJ):Ε->Ζ|0=>0|i+1=>((l[i]?).map (·.Id)).getD 0
theorem xL{l:Β aJ}{i:Ε}(h:i<l.length):Mx l (i+1)=l[i].Id:=by simp[Mx,h]
structure dH (s:aW) (st:bC):Prop where
 len:(st.ah.length:Ζ)<=s.ah
 each:∀j∈st.ah,d_ s st j
 bq:bW st.ah
def Vg{s:aW}{st:bC}(h:(st.ah.length:Ζ)<=s.ah)(g:∀i (h:i<st.ah.length),d_ s st st.ah[i]/\Mx st.ah i<st.ah[i].Id):dH s st:=⟨h,λj a=>by grind [ϔ],λi hi=>by grind [xL]⟩
theorem dH.cn{s:aW}{st:bC}(h:dH s st)(i:Ε)(hi:i<st.ah.length):d_ s st st.ah[i]/\Mx st.ah i<st.ah[i].Id:=by refine ⟨h.each _ (bG hi),?_⟩;match i,hi with|0,hi=>have:=(h.each _ (bG hi)).ok.id;grind [Mx]|i+1,hi=>rw[xL (by omega)];exact h.bq i hi
theorem dH.ids{s:aW}{st:bC}(h:dH s st):∀j∈st.ah,0<=j.Id/\j.Id<=1048576:=λj i=>by have:=(h.each j i).ok.id;omega
theorem max3{a b c n:Ζ}:(if c > (if b > a then b else a) then c else (if b > a then b else a)) > n↔a > n\/b > n\/c > n:=by omega
def jobs_ok{s:aW}(k:bn s){st:bC}(n:lw s st):fh (sK 5000 s st) (dH s st):=by have y:=k.vx;have hl:=n.aT;simp only[sK,dQ,extra_ok,aw];rw[fh,bB];refine ⟨λh=>dq λq=>?_,λp=>?_⟩;{have:=q.len;grind};simp only[bH] at p;refine gR st.ah.length (λi x=>x=(Mx st.ah i,(i:Ζ))/\∀j (h:j<st.ah.length),j<i->d_ s st st.ah[j]/\Mx st.ah j<st.ah[j].Id) (λi x f hi e t=>?_) (λx f e=>?_) ⟨rfl,λj h g=>by omega⟩ (by omega);{obtain ⟨rfl,m⟩:=e;simp only[cP hi,Υ,bZ hi,aw,bY (show i<1000000 by omega)];refine (Du _).bind λr d=>?_;rw[bB];refine ⟨λh=>dq λq=>?_,λh=>?_⟩;{have a:=q.cn i hi;have z:=d.2 a.1.ok;have A:=a.1.next;grind};simp only[gV,bH,ϟ,gY,pC] at h;have a:=d.1 h.1.1;rw[bB];refine ⟨λh=>dq λq=>?_,λu=>?_⟩;{have a:=(q.cn i hi).1;have:=a.user;have:=a.queue;grind};simp only[gV,bH,ϟ] at u;rw[bB];refine ⟨λh=>?_,λv=>?_⟩;{refine dq λq=>?_;have a:=(q.cn i hi).1;have:=a.born;have:=a.start;have:=a.fin;grind};simp only[bH,max3] at v;have E:=Hm st.ah[i].State;rw[wr (x:=s.aF+jL _) (by omega) (by omega),bB];refine ⟨λh=>dq λq=>?_,λw=>t _ ⟨by rw[xL hi],λj F l=>?_⟩⟩;{have a:=(q.cn i hi).1.version;grind};simp only[bH] at w;rcases Yl (yC7.1 l) with g | g;{simp_all};subst g;exact ⟨⟨a,by omega,by omega,by omega,by omega,by omega,by omega,by omega⟩,by omega⟩};obtain ⟨rfl,m⟩:=e;simp only[eQ,cf,cD];exact rZ (Vg (by omega) λi hi=>m i hi hi)
structure WaitsIn (s:aW) (st:bC) (j:aJ):Prop where
 fits:jH 5000 s j.Queue j.aN j.aA=Α Γ
 after:∀d∈j.aE,∃i∈st.ah,i.Id=d.aU
def Jg(s:aW)(st:bC)(j:aJ):Prop:=j.State<5->WaitsIn s st j
def TZ{s:aW}(k:bn s){st:bC}(n:lw s st)(J:dH s st):fh (kk 5000 s st) (∀j∈st.ah,Jg s st j):=by have hl:=n.aT;simp only[kk,dQ,Yw,aw];refine Qv st.ah (Jg s st) _ (λh=>h) (λi f hi Q p t=>?_) (λf h=>?_) (by omega);{simp only[cP hi,Υ,bZ hi,aw,bY (show i<1000000 by omega)];have a:=J.each _ (bG hi);have x:=a.ok.state.st;rw[bB];refine ⟨λh=>p λhs=>?_,λh=>?_⟩;{grind};simp only[gV,ot,ϟ] at h;have hs:st.ah[i].State<5:=by{omega};obtain ⟨b,u,A⟩:=Vd n.spec k (q:=st.ah[i].Queue) (m:=st.ah[i].aN) a.ok.need a.ok.lR;rw[u,aw,bB];refine ⟨λhb=>?_,λhb=>?_⟩;{rw[aZ];refine t λw=>?_;have:=(w hs).fits;simp_all};simp only[gY,pC] at hb;subst hb;have E:=a.ok.jK;refine xE st.ah[i].aE (λ_ d=>∃j∈st.ah,j.Id=d.aU) (λm g e v y=>?_) (λg v=>?_) (by omega);{simp only[cP e,Υ,bZ e,aw,bY (show m<1000000 by omega)];have F:=a.ok.after _ (bG e);have z:=a.ok.id;refine (VQ (by omega) J.bq (id:=st.ah[i].aE[m].aU) (by omega) J.ids).bind λr l=>?_;rw[bB];refine ⟨λhb=>?_,λhb=>y ?_⟩;{rw[aZ];refine t λw=>?_;have:=l.1.2 ((w hs).after _ (bG e));simp_all};simp_all};simp only[eQ,cf,cD];exact p λ_=>⟨u,ER v⟩};simp only[eQ,cf,cD];exact rZ h
structure QG (s:aW) (st:bC):Prop where
 len:(st.dx.length:Ζ)=s.aS
 use:∀x∈st.dx,0<=x/\x<=1099511627776
 qlen:st.au.am.length=s.am.length
 nodes:0<=st.au.aq/\st.au.aq<=281474976710656
 stamps:∀x∈st.au.am,0<=x/\x<=281474976710656
def NF(l:Β Ζ)(hl:l.length<=300):fh (pz 5000 l) (∀x∈l,0<=x/\x<=1099511627776):=by simp only[pz];refine Qv l (λx=>0<=x/\x<=1099511627776) _ (λh=>h) (λi f hi Q a d=>?_) (λf h=>?_) (by omega);{simp only[cP hi,Υ,bZ hi,aw,bY (show i<1000000 by omega),bB,aZ,gV,bH];grind};simp only[eQ,cf,cD];exact rZ h
def usage_ok{s:aW}{st:bC}(j:lw s st):fh (pI 5000 s st) (QG s st):=by have l:=j.use;have m:=j.stamps;simp only[pI,dQ,zdR,aw,Υ];rw[fh,bB];refine ⟨λh=>dq λq=>?_,λh=>?_⟩;{simp only[IS,eu] at h;exact h q.len};simp only[IS,eu,WU] at h;refine (NF st.dx (by omega)).bind λr k=>?_;rw[bB];refine ⟨λa=>dq λq=>?_,λa=>?_⟩;{have:=k.2 q.use;simp_all};simp only[gY,pC] at a;rw[bB];refine ⟨λd=>dq λq=>?_,λd=>?_⟩;{simp only[IS,eu] at d;grind [QG.qlen]};simp only[IS,eu,WU] at d;rw[bB];refine ⟨λe=>dq λq=>?_,λe=>?_⟩;{grind [QG.nodes]};simp only[gY,pC,bS,bH] at e;refine Qv st.au.am (λx=>0<=x/\x<=281474976710656) _ (λh=>h.stamps) (λi f hi Q n p=>?_) (λf g=>?_) (by omega);{simp only[cP hi,Υ,bZ hi,aw,bY (show i<1000000 by omega),bB,aZ,gY,yB5,yBk];grind};simp only[eQ,cf,cD];exact rZ ⟨h,k.1 a,by omega,e,g⟩
def ref_use(l:Β Ζ)(n:Ζ)(hl:l.length<=300):fh (zfG 5000 l n) ((l.length:Ζ)=n/\∀x∈l,0<=x/\x<=1099511627776):=by simp only[zfG,dQ];refine Qv l (λx=>0<=x/\x<=1099511627776) _ (λh=>h.2) (λi f hi Q a d=>?_) (λf h=>?_) (by omega);{simp only[cP hi,Υ,bZ hi,aw,bY (show i<1000000 by omega),bB,aZ,bH];grind};simp only[eQ,cf,cD,aZ,ot];simp_all
def MP(x:Ζ):fh (zbw 5000 x) (0<=x/\x<=281474976710656):=by simp only[zbw,fh,aZ,bS,bH,ge_iff_le]
structure dW (l:Β bV):Prop where
 ne:0<l.length
 inc:∀i (h:i+1<l.length),l[i].At<l[i+1].At
 each:∀s∈l,(0<=s.At/\s.At<=281474976710656)/\aQ s.cI
theorem dW.lt{l:Β bV}(h:dW l):∀{i j:Ε}(s:i<j)(u:j<l.length),l[i].At<l[j].At:=by intro i j s u;induction j with|zero=>omega|succ j ih=>have x:=h.inc j u;grind
theorem dW.le{l:Β bV}(h:dW l){i j:Ε}(s:i<=j)(x:j<l.length):l[i].At<=l[j].At:=by rcases Yl s with u | u;{have:=h.lt u x;omega};simp_all
def dW.idx{l:Β bV}(h:dW l){i j:Ε}(hi:i<l.length)(u:j<l.length)(e:l[i].At=l[j].At):i=j:=by rcases Yj i j with s | s | s;{have:=h.lt s u;omega};{exact s};have:=h.lt s hi;omega
theorem dW.inj{l:Β bV}(h:dW l){a b:bV}(s:a∈l)(hb:b∈l)(e:a.At=b.At):a=b:=by obtain ⟨i,hi,rfl⟩:=jb s;obtain ⟨j,u,rfl⟩:=jb hb;have:=h.idx hi u e;simp_all
def JK(l:Β bV):Ζ:=l.foldl (λ_ s=>s.At) (-1)
theorem Ac{l:Β bV}{i:Ε}(h:i<l.length):JK (l.take (i+1))=l[i].At:=by rw[HV h,JK,Β.foldl_append];rfl
def RN(l:Β bV)(i:Ε)(s:bV):Prop:=JK (l.take i)<s.At/\s.At<=281474976710656/\aQ s.cI
theorem stOk_of{l:Β bV}(d:0<l.length)(h:∀i (hi:i<l.length),RN l i l[i]):dW l:=by have a:∀i (h:i+1<l.length),l[i].At<l[i+1].At:=λi hi=>by{have:=(h (i+1) hi).1;grind [Ac]};have e:∀i (hi:i<l.length),0<=l[i].At:=by{intro i;induction i with|zero=>intro hi;have:=(h 0 hi).1;grind [JK]|succ i ih=>grind};exact ⟨d,a,ER (A:=λs=>(0<=s.At/\s.At<=281474976710656)/\aQ s.cI) λi hi=>⟨⟨e i hi,(h i hi).2.1⟩,(h i hi).2.2⟩⟩
theorem dW.cn{l:Β bV}(h:dW l)(i:Ε)(hi:i<l.length):RN l i l[i]:=by have e:=h.each _ (bG hi);refine ⟨?_,e.1.2,e.2⟩;match i,hi with|0,hi=>grind [JK]|i+1,hi=>rw[Ac (by omega)];exact h.inc i hi
def PI(l:Β bV)(hl:l.length<=1000):fh (zeL 5000 l) (dW l):=by unfold zeL;refine gR l.length (λi x=>x=(JK (l.take i),(i:Ζ))/\∀j (m:j<l.length),j<i->RN l j l[j]) (λi x f hi d n=>?_) (λx f d=>?_) ⟨rfl,λj _ h=>by omega⟩ (by omega);{obtain ⟨rfl,p⟩:=d;simp only[dQ];rw[Λ (cP hi),bZ hi,aw,bB];refine ⟨λh=>?_,λh=>?_⟩;{rw[Λ trivial];refine dq λq=>?_;have:=q.cn i hi;simp only[gV,bH] at h;have:=this.1;have:=(q.cn i hi).2.1;omega};refine (XZ _).bind λr a=>?_;rw[bB];refine ⟨λe=>dq λq=>?_,λe=>?_⟩;{have:=a.2 (q.cn i hi).2.2;simp_all};simp only[gY,pC] at e;simp only[gV,bH,ϟ] at h;rw[bY (show i<1000000 by omega)];refine n _ ⟨by rw[Ac hi],λj m g=>?_⟩;rcases Yl (yC7.1 g) with k | k;{simp_all};subst k;exact ⟨by omega,by omega,a.1 e⟩};obtain ⟨rfl,p⟩:=d;simp only;rw[Κ (by simp),aZ,bH];grind [stOk_of,dW.ne]
def jZ{l:Β bV}(hl:l.length<=1000)(h:dW l):zeL 5000 l=Α Γ:=by obtain ⟨r,e,a⟩:=PI l hl;simp_all
structure Idx (l:Β bV) (t:Ζ) (k:Ε):Prop where
 le:k<=l.length
 lo:∀i (h:i<l.length),i<k->l[i].At<=t
 hi:∀i (h:i<l.length),k<=i->t<l[i].At
def zdf{l:Β bV}(hl:l.length<=1000)(hs:dW l)(t:Ζ):bR (f_ 5000 l t) λr=>∃k,Idx l t k/\r=(k:Ζ)-1:=by unfold f_;rw[kG];refine lpM (λx=>∃i j:Ε,x=((i:Ζ),(j:Ζ))/\i<=j/\j<=l.length/\(∀k (h:k<l.length),k<i->l[k].At<=t)/\(∀k (h:k<l.length),j<=k->t<l[k].At)) (λx=>(x.2-x.1).toNat) (λx f q e=>?_) ⟨0,l.length,rfl,by omega,by omega,λk h hk=>by omega,λk h hk=>by omega⟩ (by omega);obtain ⟨i,j,rfl,s,g,m,n⟩:=q;rw[bB];dsimp only;refine ⟨λh=>?_,λh=>?_⟩;{simp only[bH] at h;rw[mid (by omega)];have p:(i+j) / 2<l.length:=by{omega};rw[bZ p,aw,aw,bB];refine ⟨λd=>?_,λd=>?_⟩;{simp only[gY,yBk] at d;rw[bY (by omega)];refine e _ ⟨(i+j) / 2+1,j,rfl,by omega,g,λk hk a=>?_,n⟩ (by omega);have:=hs.le (show k<=(i+j) / 2 by omega) p;omega};simp only[gY,yBk] at d;refine e _ ⟨i,(i+j) / 2,rfl,by omega,by omega,m,λk hk a=>?_⟩ (by omega);have:=hs.le a hk;omega};simp only[bH] at h;have:i=j:=by{omega};subst this;simp only[aZ];exact ⟨i,⟨g,m,n⟩,by grind [wr]⟩
def Idx.pos{l:Β bV}{t:Ζ}{k:Ε}(h:Idx l t k)(hs:dW l)(i:(l[0]'hs.ne).At<=t):0<k:=by rcases y7 k with e | e;{subst e;have:=h.hi 0 hs.ne (cR _);omega};omega
def zZ(l:Β bV)(t:Ζ)(r:aI):Prop:=∃s∈l,s.At<=t/\(∀a∈l,a.At<=t->a.At<=s.At)/\s.cI=r
def zZ.DD{l:Β bV}(hs:dW l){t:Ζ}{r j:aI}(h:zZ l t r)(u:zZ l t j):r=j:=by obtain ⟨s,x,F,G,rfl⟩:=h;obtain ⟨z,i,A,E,rfl⟩:=u;have:s=z:=hs.inj x i (by grind);rw[this]
theorem zZ.ok{l:Β bV}(hs:dW l){t:Ζ}{r:aI}(h:zZ l t r):aQ r:=by obtain ⟨s,i,_,_,rfl⟩:=h;exact (hs.each s i).2
def Idx.vat{l:Β bV}{t:Ζ}{k:Ε}(h:Idx l t (k+1))(hs:dW l)(hk:k<l.length):zZ l t l[k].cI:=by refine ⟨l[k],bG hk,h.lo k hk (by omega),λj VO s=>?_,rfl⟩;obtain ⟨i,hi,rfl⟩:=jb VO;by_cases q:i<=k;{exact hs.le q hk};have:=h.hi i hi (by omega);omega
structure Ia (L:Β aI) (r:aI):Prop where
 le:∀v∈L,∀c,cmp c r<=cmp c v
 cn:∀c,∃v∈L,cmp c v=cmp c r
def vH(a b:aI):aI:={ bQ:=if b.bQ<a.bQ then b.bQ else a.bQ,Mem:=if b.Mem<a.Mem then b.Mem else a.Mem,bU:=if b.bU<a.bU then b.bU else a.bU,bX:=if b.bX<a.bX then b.bX else a.bX }
def Kc(c:Ε)(a b:aI):cmp c (vH a b)=if cmp c b<cmp c a then cmp c b else cmp c a:=by match c with | 0=>rfl | 1=>rfl | 2=>rfl | _+3=>rfl
def aad(a b:aI):zdm 5000 a b=Α (vH a b):=by have d:∀x y:Ζ,zcB 5000 x y=Α (if y<x then y else x):=λx y=>by{unfold zcB;grind};simp only[zdm,d,aw,vH]
theorem Ia.one(v:aI):Ia [v] v:=⟨λw i c=>by simp_all,λc=>⟨v,by simp,rfl⟩⟩
theorem Ia.add{L:Β aI}{r:aI}(h:Ia L r)(v:aI):Ia (L++[v]) (vH r v):={le:=λw hw c=>by rw[Kc];rcases jI.1 hw with hw | hw;{have:=h.le w hw c;omega};grind,cn:=λc=>by rw[Kc];split;{simp_all};obtain ⟨w,hw,e⟩:=h.cn c;grind }
structure SG (V:Ζ->aI->Prop) (a b:Ζ) (r:aI):Prop where
 le:∀t v,a<=t->t<b->V t v->∀c,cmp c r<=cmp c v
 cn:∀c,∃t v,a<=t/\t<b/\V t v/\cmp c v=cmp c r
def SG.DD{V:Ζ->aI->Prop}{a b:Ζ}{r u:aI}(h:SG V a b r)(x:SG V a b u):r=u:=eJ λc=>by obtain ⟨t,v,z,A,E,e⟩:=h.cn c;obtain ⟨F,G,i,j,s,K⟩:=x.cn c;have:=h.le F G i j s c;have:=x.le t v z A E c;omega
def SG.iff{V W:Ζ->aI->Prop}{a b:Ζ}{r:aI}(h:SG V a b r)(u:∀t v,a<=t->(V t v↔W t v)):SG W a b r:=⟨λt v i j s=>h.le t v i j ((u t v i).2 s),λc=>by obtain ⟨t,v,i,j,s,e⟩:=h.cn c;grind⟩
def gP{α:Type}{l:Β α}{i:Ε}(h:i<=l.length):slice? l (i:Ζ) (l.length:Ζ)=Α (l.drop i):=by unfold slice?;simp_all
def OZ{l:Β bV}(hl:l.length<=1000)(hs:dW l){a b:Ζ}(y:(l[0]'hs.ne).At<=a)(p:a<b):bR (pP 5000 l a b) (SG (zZ l) a b):=by unfold pP;simp only[dQ];rw[jZ hl hs,aw,Κ (by simp)];rw[show (0:Ζ)=((0:Ε):Ζ) from rfl,bZ hs.ne,aw,Κ (by simp_all)];refine (zdf hl hs a).bind λr q=>?_;obtain ⟨k,hk,rfl⟩:=q;have S:=hk.pos hs y;have z:=hk.le;obtain ⟨m,rfl⟩:∃m,k=m+1:=⟨k-1,by omega⟩;rw[show ((m+1:Ε):Ζ)-1=(m:Ζ) by omega,bZ (show m<l.length by omega),aw,bY (by omega),gP (by omega),aw];have fin:∀(n:Ε)(v:aI),n<=(l.drop (m+1)).length->(∀(j:Ε)(h:j<(l.drop (m+1)).length),j<n->(l.drop (m+1))[j].At<b)->(∀(j:Ε)(h:j<(l.drop (m+1)).length),n<=j->b<=(l.drop (m+1))[j].At) -> Ia (l[m].cI::((l.drop (m+1)).take n).map (·.cI)) v->SG (zZ l) a b v:=λn v T A U d=>by{have len:(l.drop (m+1)).length=l.length-(m+1):=yCg ..;refine ⟨λt w W E hw c=>?_,λc=>?_⟩;{obtain ⟨s,F,σ,G,rfl⟩:=hw;obtain ⟨i,hi,rfl⟩:=jb F;have Z:=G l[m] (bG _) (by have:=hk.lo m (by omega) (by omega);omega);refine d.le _ ?_ c;by_cases e:i=m;{simp_all};have K:m<i:=by{rcases Yj i m with h | h | h;{have:=hs.lt h (by omega);omega};{omega};omega};have L:i-(m+1)<n:=by{grind};refine nk _ (jp.2 ⟨l[i],?_,rfl⟩);grind [Β.mem_iff_getElem]};obtain ⟨w,hw,e⟩:=d.cn c;rcases gC.1 hw with rfl | hw;{exact ⟨a,_,Ic _,p,hk.vat hs (by omega),e⟩};obtain ⟨s,VO,rfl⟩:=jp.1 hw;obtain ⟨j,g,rfl⟩:=OF.1 VO;rw[DU] at g;rw[Tx] at e VO;have hb:=A j (by omega) (by omega);rw[yCx] at e hb;have ha:=hk.hi (m+1+j) (by omega) (by omega);refine ⟨l[m+1+j].At,_,by omega,hb,⟨l[m+1+j],bG _,Ic _,λs' _ h=>h,rfl⟩,e⟩};refine gR (l.drop (m+1)).length (λi x=>∃v:aI,x=((i:Ζ),v.bQ,v.Mem,v.bU,v.bX)/\Ia (l[m].cI::((l.drop (m+1)).take i).map (·.cI)) v/\∀j (h:j<(l.drop (m+1)).length),j<i->(l.drop (m+1))[j].At<b) (λi x f hi u q=>?_) (λx f u=>?_) ⟨l[m].cI,rfl,Ia.one _,λj _ h=>by omega⟩ (by grind);{obtain ⟨v,rfl,d,hb⟩:=u;have M:m+1+i<l.length:=by{grind};dsimp only;rw[Λ (cP hi),bZ hi,aw,bB];refine ⟨λh=>?_,λh=>?_⟩;{simp only[bH] at h;rw[aZ];refine fin i v (yC6 hi) hb (λj g N=>?_) d;rw[yCx] at h ⊢;have:=hs.le (show m+1+i<=m+1+j by omega) (by grind);omega};simp only[bH] at h;rw[show ∀b,Di 5000 ({ bQ:=v.bQ,Mem:=v.Mem,bU:=v.bU,bX:=v.bX }:aI) b=Α (vH v b) from λb=>rfl,aw,bY (show i<1000000 by omega)];refine q _ ⟨vH v (l.drop (m+1))[i].cI,rfl,?_,λj g O=>?_⟩;{rw[HV hi,yBG,<-MU];exact d.add _};grind};obtain ⟨v,rfl,d,hb⟩:=u;dsimp only;rw[Κ (by simp),aZ];exact fin _ v (cR _) (λj g h=>hb j g h) (λj g h=>by omega) d
structure Kept (l r:Β bV):Prop where
 ok:dW r
 len:r.length<=l.length
 first:∀(h:0<l.length)(h':0<r.length),r[0].At=l[0].At
 sub:∀s∈r,s∈l
 val:∀t v,zZ l t v->zZ r t v
theorem eS{l:Β bV}{i:Ε}(hi:i<l.length){s:bV}:s∈l.take (i+1)↔s∈l.take i\/s=l[i]:=by rw[HV hi,jI,yk]
def zZ.take{l:Β bV}{i:Ε}(hi:i<l.length)(hs:dW l){t:Ζ}{v:aI}(h:zZ (l.take (i+1)) t v):(l[i].At<=t/\v=l[i].cI)\/(t<l[i].At/\zZ (l.take i) t v):=by obtain ⟨s,x,z,u,rfl⟩:=h;rw[HV hi] at x u;by_cases q:l[i].At<=t;{left;refine ⟨q,?_⟩;have A:=u l[i] (yBH _ (yk.2 rfl)) q;rcases jI.1 x with h | h;{obtain ⟨j,E,rfl⟩:=OF.1 h;rw[DU] at E;rw[Tx] at A ⊢;have:=hs.lt (show j<i by omega) hi;omega};simp_all};right;refine ⟨by omega,s,?_,z,λF G=>u F (yBM _ G),rfl⟩;grind
def stOk_app{l:Β bV}(hs:dW l){s:bV}(h:∀x∈l,x.At<s.At)(d:(0<=s.At/\s.At<=281474976710656)/\aQ s.cI):dW (l++[s]):=by have:=hs.ne;refine ⟨by simp,λi hi=>?_,λx a=>?_⟩;{rw[AZ,yCq] at hi;rw[yCc (show i<l.length by omega)];by_cases e:i+1<l.length;{rw[yCc e];exact hs.inc i e};simp_all};rcases jI.1 a with a | a;{exact hs.each x a};simp_all
def Oc{l:Β bV}(hl:l.length<=1000)(hs:dW l):bR (pA 5000 l) (Kept l):=by have m:=hs.ne;unfold pA;rw[jZ hl hs,aw,Κ (by simp)];rw[show (0:Ζ)=((0:Ε):Ζ) from rfl,bZ m,aw];rw[show slice? l 1 (l.length:Ζ)=Α (l.drop 1) from gP m,aw];have N:(l.drop 1).length=l.length-1:=yCg ..;refine gR (l.drop 1).length (λi x=>x.1=(i:Ζ)/\Kept (l.take (i+1)) x.2/\∃(h:0<x.2.length)(hi:i<l.length),x.2[x.2.length-1].cI=l[i].cI) (λi x f hi r O=>?_) (λx f r=>?_) ?_ (by omega);{obtain ⟨y,a⟩:=x;obtain ⟨rfl,hk,g,z,d⟩:=r;dsimp only at hk g d ⊢;have k:i+1<l.length:=by{omega};have u:=hk.len;rw[DU] at u;have F:(l.drop 1)[i]=l[i+1]:=by{simp_all};simp only[dQ];rw[Λ (cP hi),bZ hi,aw,F,wr (x:=(a.length:Ζ)-1) (by omega) (by omega),show (a.length:Ζ)-1=((a.length-1:Ε):Ζ) by omega,bZ (show a.length-1<a.length by omega),aw,bY (show i<1000000 by omega),d];have n:∀x∈a,x.At<l[i+1].At:=λx r=>by{have:=hk.sub x r;obtain ⟨j,A,rfl⟩:=OF.1 this;rw[DU] at A;rw[Tx];exact hs.lt (by omega) k};rw[bB];refine ⟨λh=>?_,λh=>?_⟩;{rw[sF (by grind),aw];have K:Kept (l.take (i+1+1)) (a++[l[i+1]]):=by{refine ⟨stOk_app hk.ok n (hs.each _ (bG _)),by grind,λh w=>?_,λs VO=>?_,λt v p=>?_⟩;{have:=hk.first (by grind) g;simp_all};{rcases jI.1 VO with q | q;{exact (eS k).2 (.inl (hk.sub s q))};grind [eS]};rcases p.take k hs with ⟨q,rfl⟩ | ⟨q,p⟩;{exact ⟨l[i+1],yBH _ (yk.2 rfl),q,λE w _=>by grind,rfl⟩};obtain ⟨s,G,L,S,M⟩:=hk.val t v p;exact ⟨s,yBM _ G,L,λE w T=>by grind,M⟩};simp_all};have e:l[i+1].cI=l[i].cI:=by{simp only[gY,pC] at h;simp only[bV.beq,bS,ot,ib] at h;simp_all};have K:Kept (l.take (i+1+1)) a:=by{refine ⟨hk.ok,by grind,λh w=>?_,λs VO=>(eS k).2 (.inl (hk.sub s VO)),λt v p=>?_⟩;{have:=hk.first (by grind) g;simp_all};rcases p.take k hs with ⟨q,rfl⟩ | ⟨q,p⟩;{refine ⟨a[a.length-1],bG _,by grind,λE w _=>?_,by simp_all⟩;obtain ⟨j,A,rfl⟩:=jb w;exact hk.ok.le (by omega) (by omega)};exact hk.val t v p};simp_all};{obtain ⟨y,a⟩:=x;obtain ⟨rfl,hk,g,z,d⟩:=r;dsimp only at hk ⊢;rw[Κ (by simp),aZ];grind};have e:l.take 1=[l[0]]:=by{grind [κ]};refine ⟨rfl,?_,by simp,m,rfl⟩;rw[TW,e];refine ⟨⟨by simp,λi h=>by simp at h,λs h=>by simp at h;subst h;exact hs.each _ (bG _)⟩,by simp,λ_ _=>rfl,λs h=>h,λt v h=>h⟩
def dW.pw{l:Β bV}(h:dW l):l.Pairwise λa b=>a.At<b.At:=yBb.2 λi j hi u s=>h.lt s u
def stOk_pw{l:Β bV}(d:0<l.length)(h:l.Pairwise λa b=>a.At<b.At)(e:∀s∈l,(0<=s.At/\s.At<=281474976710656)/\aQ s.cI):dW l:=⟨d,λi hi=>yBb.1 h i (i+1) (by omega) hi (by omega),e⟩
def zZ.ex{l:Β bV}(hs:dW l){t:Ζ}(x:(l[0]'hs.ne).At<=t):∃v,zZ l t v:=by have:∀n,0<n->n<=l.length->∃v,zZ (l.take n) t v:=by{intro n;induction n with|zero=>omega|succ n ih=>intro _ K;rcases y7 n with rfl | z;{refine ⟨l[0].cI,l[0],?_,x,λu i _=>?_,rfl⟩;{grind [eS]};rcases (eS (show 0<l.length by omega)).1 i with i | e;{grind};simp_all};obtain ⟨v,s,A,E,M,F⟩:=ih z (by omega);by_cases q:l[n].At<=t;{refine ⟨l[n].cI,l[n],(eS (by omega)).2 (.inr rfl),q,λu i _=>?_,rfl⟩;rcases (eS (show n<l.length by omega)).1 i with i | e;{obtain ⟨j,G,rfl⟩:=OF.1 i;rw[DU] at G;rw[Tx];exact hs.le (by omega) (by omega)};simp_all};refine ⟨v,s,(eS (by omega)).2 (.inl A),E,λu i O=>?_,F⟩;grind [eS]};have:=this l.length hs.ne (cR _);simp_all
def insS_ok{l:Β bV}(hl:l.length<=2000)(x:bV){k:Ε}(hk:k<=l.length):za4 5000 l [x] (k:Ζ)=Α (l.take k++[x]++l.drop k):=by unfold za4 zaG;rw[gP hk,aw,Κ (by simp)];by_cases e:k=l.length;{subst e;rw[Λ (by simp),sF (by grind),aw];simp[orE]};rw[Κ (by grind)];unfold orE Pw;grind
structure CutOk (l:Β bV) (t:Ζ) (r:Β bV):Prop where
 ok:dW r
 len:r.length<=l.length+1
 first:∀(h:0<l.length)(h':0<r.length),r[0].At=l[0].At
 val:∀u v,zZ l u v->zZ r u v
 cn:∃s∈r,s.At=t
 VG:∀s∈l,s∈r
def mh{l:Β bV}(hl:l.length<=1000)(hs:dW l){t:Ζ}(A:(l[0]'hs.ne).At<=t)(T:t<=281474976710656):bR (qR 5000 l t) (CutOk l t):=by unfold qR;refine (zdf hl hs t).bind λr E=>?_;obtain ⟨k,hk,rfl⟩:=E;have U:=hk.pos hs A;have i:=hk.le;obtain ⟨m,rfl⟩:∃m,k=m+1:=⟨k-1,by omega⟩;have d:m<l.length:=by{omega};unfold za8;rw[show ((m+1:Ε):Ζ)-1=(m:Ζ) by omega,vm (by omega),aw,bZ d,aw,bB];refine ⟨λh=>?_,λh=>?_⟩;{simp only[ot] at h;exact aZ.2 ⟨hs,by omega,λ_ _=>rfl,λu v h=>h,⟨_,bG d,h⟩,λs h=>h⟩};simp only[ot] at h;have F:=hk.lo m d (by omega);have W:=hs.each _ (bG d);rw[aw,bY (show m<1000000 by omega),insS_ok (by omega) _ i,aw,aZ];generalize σ:({ At:=t,cI:=l[m].cI }:bV)=x;have G:x.At=t:=by{grind};have K:x.cI=l[m].cI:=by{grind};have Z:∀s∈l.take (m+1),s.At<t:=λs VO=>by{obtain ⟨j,e,rfl⟩:=OF.1 VO;rw[DU] at e;rw[Tx];have:=hs.le (show j<=m by omega) d;omega};have hB:∀s∈l.drop (m+1),t<s.At:=λs VO=>by{obtain ⟨j,e,rfl⟩:=OF.1 VO;rw[yCg] at e;rw[yCx];exact hk.hi _ (by omega) (by omega)};have n:l=l.take (m+1)++l.drop (m+1):=(Lx ..).symm;have f:=hs.pw;rw[n] at f;obtain ⟨p1,L,p3⟩:=Lu.1 f;have mem:∀s,s∈l.take (m+1)++[x]++l.drop (m+1)↔s∈l\/s=x:=λs=>by{constructor;{grind};grind};refine ⟨stOk_pw (by grind) (Lu.2 ⟨Lu.2 ⟨p1,by simp,λa M b hb=>?_⟩,L,λa M b hb=>?_⟩) λs h=>?_,?_,λh p=>?_,λu v N=>?_,⟨x,(mem x).2 (.inr rfl),G⟩,λs h=>(mem s).2 (.inl h)⟩;{grind};{grind};{rcases (mem s).1 h with h | rfl;{exact hs.each s h};grind};{grind};{grind};obtain ⟨s,g,w,O,rfl⟩:=N;by_cases q:t<=u;{have S:=O l[m] (bG d) (by omega);by_cases q2:s.At<t;{have:s=l[m]:=by{obtain ⟨j,e,rfl⟩:=jb g;have:j<=m:=by{rcases tT m j with h | h;{have:=hk.hi j e (by omega);omega};omega};have:=hs.le this d;exact hs.inj g (bG d) (by omega)};subst this;exact ⟨x,(mem x).2 (.inr rfl),by omega,λy p z=>by grind,K⟩};exact ⟨s,(mem s).2 (.inl g),w,λy p z=>by grind,rfl⟩};exact ⟨s,(mem s).2 (.inl g),w,λy p z=>by grind,rfl⟩
theorem cut_same:lr=qR:=rfl
def wI(out:Β bV)(need:aI)(a hi:Ε):Β bV:=out.mapIdx λj s=>if a<=j/\j<hi then { At:=s.At,cI:=fG s.cI need } else s
theorem Vx{out:Β bV}{need:aI}{a hi:Ε}:(wI out need a hi).length=out.length:=by simp[wI]
theorem kW{out:Β bV}{need:aI}{a hi j:Ε}(h:j<(wI out need a hi).length):(wI out need a hi)[j]=if a<=j/\j<hi then { At:=(out[j]'(by grind [Vx])).At,cI:=fG (out[j]'(by grind [Vx])).cI need } else out[j]'(by grind [Vx]):=by grind [wI]
theorem yg{out:Β bV}{need:aI}{a hi j:Ε}(h:j<(wI out need a hi).length):(wI out need a hi)[j].At=(out[j]'(by grind [Vx])).At:=by grind [kW]
def ZO(out:Β bV)(need:aI)(a:Ε):wI out need a a=out:=yCh Vx λj d e=>by rw[kW,Κ (by omega)]
theorem subL_set{out:Β bV}{need:aI}{a i:Ε}(h:a+i<out.length):(wI out need a (a+i)).set (a+i) { At:=out[a+i].At,cI:=fG out[a+i].cI need }=wI out need a (a+(i+1)):=yCh (by simp[Vx]) λj d f=>by rw[B8];split;{rename_i e;subst e;rw[kW,Λ ⟨by omega,by omega⟩]};rw[kW,kW];grind
def kM(a b:aI):Prop:=∀c,cmp c a<=cmp c b
def subR_ok{a b:aI}(d:aQ a)(hb:aQ b)(h:kM b a):aQ (fG a b):=yc.2 λc=>by have:=yc.1 d c;have:=yc.1 hb c;have:=h c;rw[Dz];omega
structure SO (l:Β bV) (a b:Ζ) (need:aI) (r:Β bV):Prop where
 ok:dW r
 len:r.length<=l.length+2
 first:∀(h:0<l.length)(h':0<r.length),r[0].At=l[0].At
 val:∀t v,zZ l t v->zZ r t (if a<=t/\t<b then fG v need else v)
def zI{l:Β bV}(hl:l.length<=900)(hs:dW l){a b:Ζ}{need:aI}(L:aQ need)(h0:(l[0]'hs.ne).At<=a)(ab:a<b)(hb:b<=281474976710656) (u:∀t v,a<=t->t<b->zZ l t v->kM need v):bR (nH 5000 l a b need) λr=>r.2=0/\SO l a b need r.1:=by unfold nH zeT;have w:=hs.ne;obtain ⟨rn,en,M⟩:=XZ need;have:=M.2 L;subst this;simp only[dQ];rw[jZ (by omega) hs,aw,Κ (by simp),en,aw,Κ (by simp)];rw[show (0:Ζ)=((0:Ε):Ζ) from rfl,bZ w,aw,Κ (by simp_all),cut_same];rw[kG];refine (mh (by omega) hs h0 (by omega)).bind λo1 c1=>?_;have W:=c1.ok.ne;have f1:=c1.first w W;have l1:=c1.len;refine (mh (by omega) c1.ok (t:=b) (by omega) hb).bind λout g=>?_;have n2:=g.ok.ne;have f2:=g.first W n2;have l2:=g.len;obtain ⟨sa,N,ad⟩:=c1.cn;obtain ⟨d,m,af⟩:=jb (g.VG sa N);obtain ⟨sb,O,ak⟩:=g.cn;obtain ⟨e,he,eb⟩:=jb O;have aa:out[d].At=a:=by{simp_all};have bb:out[e].At=b:=by{simp_all};have val:∀t v,zZ l t v->zZ out t v:=λt v h=>g.val t v (c1.val t v h);have S:∀j (h:j<out.length),a<=out[j].At->out[j].At<b->aQ (fG out[j].cI need):=λj h y A=>by{obtain ⟨v,E⟩:=zZ.ex hs (t:=out[j].At) (by omega);have:=(val _ _ E).DD g.ok ⟨out[j],bG h,Ic _,λs' _ h=>h,rfl⟩;subst this;exact subR_ok (E.ok hs) L (u _ _ y A E)};refine (zdf (by omega) g.ok a).bind λr p=>?_;obtain ⟨k,hk,rfl⟩:=p;have hp:=hk.pos g.ok (by omega);have an:=hk.le;have hm:k=d+1:=by{rcases Yj k (d+1) with h | h | h;{have:=hk.hi d m (by omega);omega};{exact h};have:=hk.lo (k-1) (by omega) (by omega);have:=g.ok.lt (show d<k-1 by omega) (by omega);omega};subst hm;have av:d<e:=by{rcases Yj d e with h | h | h;{exact h};{simp_all};have:=g.ok.lt h m;omega};rw[show ((d+1:Ε):Ζ)-1=(d:Ζ) by omega];have mid:∀j (h:j<out.length),d<=j->j<e->a<=out[j].At/\out[j].At<b:=λj h y A=>by{have:=g.ok.le y h;have:=g.ok.lt A he;omega};refine gR (e-d) (λi x=>x=(((d+i:Ε):Ζ),wI out need d (d+i))) (λi x f hi T p=>?_) (λx f T=>?_) (by rw[Ε.add_zero,ZO]) (by omega);{subst T;have n:d+i<out.length:=by{omega};obtain ⟨y,A⟩:=mid (d+i) n (by omega) (by omega);have F:(wI out need d (d+i))[d+i]'(by grind [Vx])=out[d+i]:=by{rw[kW,Κ (by omega)]};dsimp only;rw[bZ (show d+i<(wI out need d (d+i)).length by grind),aw,F,Λ (by simp_all),aw];refine (ZV (g.ok.each _ (bG n)).2 L).bind λr G=>?_;have z:=G.1.2 (S _ n y A);rw[Κ (by simp[z]),lm,G.2 z,bY (show d+i<1000000 by omega)];grind [subL_set]};subst T;rw[show d+(e-d)=e by omega];dsimp only;rw[bZ (show e<(wI out need d e).length by grind [Vx]),lm,yg,Κ (by simp_all)];have σ:dW (wI out need d e):=by{refine ⟨by grind [Vx],λi h=>?_,λs h=>?_⟩;{rw[yg,yg];exact g.ok.inc i (by grind [Vx])};obtain ⟨j,n,rfl⟩:=jb h;have K:=n;rw[Vx] at K;have ej:=g.ok.each _ (bG K);grind [kW]};refine (Oc (by grind [Vx]) σ).bind λr p=>?_;rw[aZ,aZ];have rl:=p.len;rw[Vx] at rl;refine ⟨rfl,p.ok,by grind,λh Z=>?_,λt v E=>p.val _ _ ?_⟩;{have:=p.first σ.ne Z;grind [yg]};obtain ⟨s,h1,h2,h3,rfl⟩:=val t v E;obtain ⟨j,n,rfl⟩:=jb h1;have U:j<(wI out need d e).length:=by{grind [Vx]};refine ⟨(wI out need d e)[j],bG U,by grind [yg],λs' Z ht=>?_,?_⟩;{grind [ϔ,yg]};rw[kW];have ka:a<=t↔d<=j:=by{constructor;{intro h;have:=h3 out[d] (bG m) (by omega);rcases tT j d with q | q;{have:=g.ok.lt q m;omega};omega};intro h;have:=g.ok.le h n;omega};have kb:t<b↔j<e:=by{constructor;{intro h;rcases tT j e with q | q;{exact q};have:=g.ok.le q n;omega};grind};grind
end Go.Plain
end
