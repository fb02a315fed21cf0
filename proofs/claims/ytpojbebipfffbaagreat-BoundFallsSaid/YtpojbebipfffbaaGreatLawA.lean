/- Lemmas. -/
import Derived.Test.YtpojbebipfffbaaGreatTyPure
import Derived.KernelRfl
import Derived.Laws.BitsLemmas
set_option linter.all false
open _root_ renaming Bool->Λ,Bool.or_eq_false_iff->C6,ByteArray->Χ,Classical.not_not->G8,Int->Η,Int.ediv_nonneg->I9,Int.fdiv->π,List->Β,List.Pairwise.sublist->B9,List.Perm.append->H7,List.Perm.append_left->Ϻ,List.eq_nil_or_concat->B8,List.getElem_of_mem->ϗ,List.length->τ,List.replicate->κ,Nat->Ε,Option->Δ,Option.bind_some->ϓ,absurd->φ,Decidable.decide->Ι,Bool.false->Θ,if_neg->Κ,if_pos->Ν,if_true->Υ,ne_eq->fm,not_or->ϥ,Option.some->Α,Bool.true->Γ
open Go.IntKind (i64 u64)
section
namespace Go.Plain
open Go.Abs
instance glT:Gl:={ ok:=λ_ _=>True,mono:=λ_ _=>trivial }
theorem wr{x:Η}(a:-9223372036854775808<=x)(d:x<9223372036854775808):i64.wrap x=x:=by rw[IntKind.wrap_i64];omega
theorem bR{i:Ε}(h:i<1000000):i64.wrap ((i:Η)+1)=((i+1:Ε):Η):=by grind [wr]
def wp1{i:Ε}(h:i+1<1000000):i64.wrap (((i+1:Ε):Η)-1)=(i:Η):=by grind [wr]
theorem ca{α:Type}{l:Β α}{i:Ε}(h:i<l.length):aG l (i:Η)=Α l[i]:=by unfold aG;simp_all
theorem Fb{α:Type}{l:Β α}{x:Η}(d:0<=x)(h:x<l.length):∃a:x.toNat<l.length,aG l x=Α (l[x.toNat]'a):=by have a:x.toNat<l.length:=by{omega};refine ⟨a,?_⟩;unfold aG;simp_all
theorem cK{i n:Ε}(h:i<n):Ι ((i:Η)<(n:Η))=Γ:=by simp_all
theorem dY{n:Ε}:Ι ((n:Η)<(n:Η))=Θ:=by simp
theorem Ap{α:Type}{l m:Β α}(h:l.length+m.length<=1000000):cH l m=Α (l++m):=by unfold cH;simp_all
theorem Ie{α:Type}{m:Β α}(h:m.length<=1000000):cH [] m=Α m:=by grind [Ap]
theorem eO{X R:Type}(r:X->Δ R)(b:(X->Δ R)->Δ R):jn r b=b r:=rfl
def bF{β:Type}(o:Δ β)(Q:β->Prop):Prop:=∃r,o=Α r/\Q r
abbrev g_(o:Δ Λ)(P:Prop):Prop:=bF o λb=>b=Γ↔P
section
variable{α β γ V:Type}{o:Δ α}{P Q:α->Prop}
theorem bF.mono(h:bF o P)(i:∀r,P r->Q r):bF o Q:=by obtain ⟨r,j,s⟩:=h;exact ⟨r,j,i r s⟩
def bF.bind{f:α->Δ β}{R:β->Prop}(h:bF o P)(i:∀r,P r->bF (f r) R):bF (o.bind f) R:=by obtain ⟨r,rfl,j⟩:=h;simp_all
theorem aU{r:α}:bF (Α r) Q↔Q r:=by simp[bF]
def Zd{f:α->Δ β}{R:β->Prop}:bF (o.bind f) R↔bF o λr=>bF (f r) R:=by cases o <;> simp[bF]
theorem bp{c:Prop}[Decidable c]{a b:Δ α}:bF (if c then a else b) Q↔(c->bF a Q)/\(¬c->bF b Q):=by grind
theorem bF.eq{r:α}(h:bF o λx=>x=r):o=Α r:=by obtain ⟨_,h,rfl⟩:=h;exact h
end
section
variable{X R α:Type}{b:(X->Δ R)->X->Δ R}{Q:R->Prop}
theorem fE(n:Ε)(Inv:Ε->X->Prop)(hs:∀i x f,i<n->Inv i x->(∀d,Inv (i+1) d->bF (f d) Q)->bF (b f x) Q) (j:∀x f,Inv n x->bF (b f x) Q) {g:X} (l:Inv 0 g) {N:Ε} (m:n<N):bF (bE b N g) Q:=by have:∀k i x,i<=n->n<i+k->Inv i x->bF (bE b k x) Q:=by{intro k;induction k with|zero=>omega|succ k ih=>intro i x h p hi;rcases yBw h with a | rfl;{exact hs i x _ a hi λd e=>ih (i+1) d a (by omega) e};exact j x _ hi};grind
end
section
variable{R α:Type}{b:(Η->Δ R)->Η->Δ R}{Q:R->Prop}
theorem xq(l:Β α)(A:Ε->α->Prop) (hs:∀i (f:Η->Δ R) (h:i<l.length),(∀j (a:j<l.length),j<i->A j l[j])->(A i l[i]->bF (f ((i+1:Ε):Η)) Q)->bF (b f (i:Η)) Q) (k:∀f,(∀j (a:j<l.length),A j l[j])->bF (b f (l.length:Η)) Q) {N:Ε} (d:l.length<N):bF (bE b N 0) Q:=fE l.length (fun i x=>x=(i:Η)/\∀j (a:j<l.length),j<i->A j l[j]) (fun i x f hi ⟨e,g⟩ m=>by grind) (fun x f ⟨e,g⟩=>by simp_all) ⟨rfl,fun j a h=>φ h (by omega)⟩ d
end
def DC{α:Type}{l:Β α}{A:α->Prop}(h:∀j (d:j<l.length),A l[j]):∀a∈l,A a:=λa e=>by grind [ϗ]
def TM{α:Type}{b:(Η->Δ Λ)->Η->Δ Λ}(l:Β α)(A:α->Prop)(P:Prop)(j:P->∀a∈l,A a) (hs:∀(i:Ε)(f:Η->Δ Λ)(h:i<l.length)(Q:Λ->Prop),(A l[i]->bF (f ((i+1:Ε):Η)) Q)->(¬A l[i]->Q Θ)->bF (b f (i:Η)) Q) (d:∀f,(∀a∈l,A a)->g_ (b f (l.length:Η)) P) {N:Ε} (e:l.length<N):g_ (bE b N 0) P:=xq l (λ_ a => A a) (λi f h _ g => hs i f h _ g λk => by grind) (λf h=>d f (DC h)) e
structure mW (s:bj):Prop where
 nodes:s.aj.length<=40
 parts:s.aJ.length<=20
 gF:s.am.length<=20
 part:∀p∈s.aJ,p.length<=40
 queue:∀q∈s.am,q.aX.length<=40
def few07(s:bj):bF (zfg 5000 s) λr=>r=Γ->mW s:=by simp only[zfg,bp,aU];refine ⟨by simp,λh=>?_⟩;simp only[gy,bD,ϥ,Η.not_lt] at h;obtain ⟨⟨g,j⟩,k⟩:=h;refine xq s.aJ (λ_ q=>q.length<=40) (λi f h _ a=>?_) (λf d=>?_) (by omega);{simp only[cK h,Υ,ca h,az,bR (show i<1000000 by omega),bp,aU,bD];grind};simp only[dY,bY,cq];refine xq s.am (λ_ q=>q.aX.length<=40) (λi f h _ a=>?_) (λf e=>?_) (by omega);{simp only[cK h,Υ,ca h,az,bR (show i<1000000 by omega),bp,aU,bD];grind};simp only[dY,bY,cq,aU];exact λ_=>⟨by omega,by omega,by omega,DC d,DC e⟩
def few17(l:Β aH):bF (zfo 5000 l) λr=>r=Γ->l.length<=30/\∀j∈l,j.aF.length<=10:=by simp only[zfo,bp,aU];refine ⟨by simp,λh=>?_⟩;simp only[bD] at h;refine xq l (λ_ q=>q.aF.length<=10) (λi f h _ d=>?_) (λf a=>?_) (by omega);{simp only[cK h,Υ,ca h,az,bR (show i<1000000 by omega),bp,aU,bD];grind};simp only[dY,bY,cq,aU];exact λ_=>⟨by omega,DC a⟩
structure kX (s:bj) (st:bO):Prop where
 spec:mW s
 aR:st.ae.length<=300
 after:∀j∈st.ae,j.aF.length<=10
 bT:st.ah.length<=300
 bG:st.aA.length<=20
 use:st.fC.length<=20
 stamps:st.ar.am.length<=20
 shares:∀a∈st.ah,a.ai.length<=40
def kX.sh{s:bj}{st:bO}(h:kX s st):∀a∈st.ah,a.ai.length<=300:=λa i=>kz (h.shares a i) (by decide)
def few23(s:bj)(st:bO):bF (zc6 5000 s st) λr=>r=Γ->kX s st:=by simp only[zc6,eO];refine (few07 s).bind λr d=>?_;simp only[Υ,aU,bp];refine ⟨by simp,λh=>?_⟩;refine (few17 st.ae).bind λk a=>?_;simp only[il,pM] at h;have g:=d h;simp only[bp,aU];refine ⟨by simp,λh=>?_⟩;simp only[gy,bD,ϥ,Η.not_lt,il,pM] at h;obtain ⟨⟨⟨⟨h,l⟩,m⟩,n⟩,p⟩:=h;have e:=a h;refine xq st.ah (λ_ q=>q.ai.length<=40) (λi f h _ d=>?_) (λf j=>?_) (by omega);{simp only[cK h,Υ,ca h,az,bR (show i<1000000 by omega),bp,aU,bD];grind};simp only[dY,bY,cq,aU];exact λ_=>⟨g,kz e.1 (by decide),e.2,by omega,by omega,by omega,by omega,DC j⟩
def NJ(lo hi x:Η):Λ:=Ι (lo<=x)&&Ι (x<=hi)
structure aP (r:aE):Prop where
 ED:0<=r.bS/\r.bS<=1048576
 mem:0<=r.Mem/\r.Mem<=1048576
 FT:0<=r.bU/\r.bU<=1048576
 HY:0<=r.bW/\r.bW<=1048576
def Br(r:aE):g_ (za6 5000 r) (aP r):=by simp only[za6,zcp,aU,az,bp,bH,bD,bY,HX,g_];refine ⟨λa=>⟨λd=>⟨λe=>⟨λf=>⟨a,d,e,f⟩,λh=>h.HY⟩,λe h=>e h.FT⟩,λd h=>d h.mem⟩,λa h=>a h.ED⟩
theorem at4x0{a b c d:Η}:aG [a,b,c,d] 0=Α a:=rfl
theorem at4x1{a b c d:Η}:aG [a,b,c,d] 1=Α b:=rfl
theorem at4x2{a b c d:Η}:aG [a,b,c,d] 2=Α c:=rfl
theorem at4x3{a b c d:Η}:aG [a,b,c,d] 3=Α d:=rfl
def lpN(l:Β Η)(lo hi n:Η)(d:(l.length:Η)=n){E:Δ Λ}{Q:Λ->Prop}(j:¬(∀a∈l,lo<=a/\a<=hi)->Q Θ)(e:(∀a∈l,lo<=a/\a<=hi)->bF E Q)(g:l.length<5000) : bF (bE (λ(f:Η->Δ Λ) (x:Η)=>if (Ι (x<n))=Γ then (aG l x).bind λy=>if ((Ι (y<lo)) || (Ι (y > hi)))=Γ then Α Θ else f (i64.wrap (x+1)) else E) 5000 0) Q:=by subst d;refine xq l (λ_ a=>lo<=a/\a<=hi) (λi f h _ k=>?_) (λf h=>?_) g;{simp only[cK h,Υ,ca h,az,bR (show i<1000000 by omega),bp,aU,gy,bD];grind};simp only[dY,bY,cq];exact e (DC h)
def BK{a b c d lo hi:Η}:(∀x∈[a,b,c,d],lo<=x/\x<=hi)↔(lo<=a/\a<=hi)/\(lo<=b/\b<=hi)/\(lo<=c/\c<=hi)/\(lo<=d/\d<=hi):=by simp
def Jy{a b c lo hi:Η}:(∀x∈[a,b,c],lo<=x/\x<=hi)↔(lo<=a/\a<=hi)/\(lo<=b/\b<=hi)/\(lo<=c/\c<=hi):=by simp
def Uf(r:aE):g_ (NC 5000 r) (aP r):=by simp only[NC,gW,az];refine lpN [r.bS,r.Mem,r.bU,r.bW] 0 1048576 4 rfl (λh=>?_) (λh=>?_) (by simp);{simp only[bY,HX];exact λv=>h (BK.2 ⟨v.ED,v.mem,v.FT,v.HY⟩)};rw[aU];obtain ⟨a,d,e,f⟩:=BK.1 h;exact ⟨λ_=>⟨a,d,e,f⟩,λ_=>rfl⟩
def b_:aE:={ bS:=0,Mem:=0,bU:=0,bW:=0 }
theorem iH{a b:aE}:aE.beq a b=Γ↔a=b:=by obtain ⟨d,e,f,g⟩:=a;obtain ⟨h,i,j,k⟩:=b;simp[aE.beq]
def Ny(l:Β Η):Ε->Η|0=>-1|i+1=>l[i]?.getD 0
theorem qO{l:Β Η}{i:Ε}(h:i<l.length):Ny l (i+1)=l[i]:=by simp[Ny,h]
def ny(l:Β Η)(n:Η):Prop:=∀i (h:i<l.length),Ny l i<l[i]/\l[i]<n
theorem ny.nn{l:Β Η}{n:Η}(h:∀i (hi:i<l.length),Ny l i<l[i]):∀i (hi:i<l.length),0<=l[i]:=by intro i;induction i with|zero=>grind [Ny]|succ i ih=>grind [qO]
theorem ny.mem{l:Β Η}{n:Η}(h:ny l n):∀x∈l,0<=x/\x<n:=λx j=>by obtain ⟨i,hi,rfl⟩:=gz j;exact ⟨ny.nn (n:=n) (λi hi=>(h i hi).1) i hi,(h i hi).2⟩
def ascending(l:Β Η)(n:Η)(hl:l.length<99):g_ (ze5 5000 l n) (ny l n):=by simp only[ze5];refine fE l.length (λi x=>x=(Ny l i,(i:Η))/\∀j (d:j<l.length),j<i->Ny l j<l[j]/\l[j]<n) (λi x f hi a g=>?_) (λx f a=>?_) ⟨rfl,λj d h=>by omega⟩ (by omega);{obtain ⟨rfl,e⟩:=a;simp only[cK hi,Υ,ca hi,az,bR (show i<1000000 by omega),bp,aU,gy,bD];refine ⟨λh=>?_,λh=>g _ ⟨by rw[qO hi],λj d k=>?_⟩⟩;{simp only[bY,HX];intro m;have:=m i hi;omega};grind};obtain ⟨rfl,e⟩:=a;simp only[dY,bY,cq,aU,Rg];exact λi hi=>e i hi hi
def Hg(l:Β Η)(n:Η)(hl:l.length<99):g_ (zcP 5000 l n) (ny l n):=by simp only[zcP,eO];refine xq l (λi a=>Ny l i<a/\a<n) (λi f h r e=>?_) (λf h=>?_) (by omega);{have g:Ι ((i:Η) > 0)=Ι (0<i):=by{simp};simp only[cK h,Υ,ca h,az,bR (show i<1000000 by omega),bp,aU,bD,g,bY,cq];have bad:¬(Ny l i<l[i]/\l[i]<n)->(False↔ny l n):=λj=>by{simp only[HX];exact λd=>j (d i h)};refine ⟨λk=>?_,λk=>⟨λp=>bad (by omega),λp=>⟨λq=>?_,λq=>?_⟩⟩⟩;{simp only[HX];intro d;have:=(d.mem _ (bB h)).1;omega};{obtain ⟨m,rfl⟩:∃m,i=m+1:=⟨i-1,by omega⟩;rw[wp1 (show m+1<1000000 by omega),ca (show m<l.length by omega)];rw[qO (by omega)] at bad e;simp only[az,bp,bD,aU,bY];simp_all};grind [Ny]};simp only[dY,bY,cq,aU,Rg];exact h
structure pF (s:bj):Prop where
 lo:1<=s.aj.length
 hi:s.aj.length<=16
 ok:∀r∈s.aj,aP r
def RU(s:bj):g_ (gn 5000 s) (pF s):=by simp only[gn,bp,aU];refine ⟨λh=>?_,λh=>?_⟩;{simp only[gy,bD] at h;simp only[bY,HX];grind [pF.lo,pF.hi]};simp only[gy,bD,ϥ] at h;refine TM s.aj aP _ (λk=>k.ok) (λi f a Q e g=>?_) (λf d=>?_) (by omega);{simp only[cK a,Υ,ca a,az,bR (show i<1000000 by omega)];refine (Uf _).bind λr j=>?_;simp only[bp,aU,il,pM];grind};simp only[dY,bY,cq,aU,Rg];exact ⟨by omega,by omega,d⟩
def YI(s:bj)(hs:mW s):g_ (zdo 5000 s) (pF s):=by have:=hs.nodes;simp only[zdo];refine TM s.aj aP _ (λk=>k.ok) (λi f a Q e g=>?_) (λf d=>?_) (by omega);{simp only[cK a,Υ,ca a,az,bR (show i<1000000 by omega)];refine (Br _).bind λr j=>?_;simp only[bp,aU,il,pM];grind};simp only[dY,bY,cq,Cb,az,aU,bH,bD];exact ⟨λh=>⟨by omega,by omega,d⟩,λh=>by grind [pF.lo,pF.hi]⟩
structure pg (s:bj):Prop where
 lo:1<=s.aJ.length
 hi:s.aJ.length<=8
 ok:∀p∈s.aJ,1<=p.length/\ny p s.aj.length
def Tz(s:bj)(hs:mW s):g_ (gh 5000 s) (pg s):=by simp only[gh,eO,bp,aU];refine ⟨λh=>?_,λh=>?_⟩;{simp only[gy,bD] at h;simp only[bY,HX];grind [pg.lo,pg.hi]};simp only[gy,bD,ϥ] at h;refine TM s.aJ (λp=>1<=p.length/\ny p s.aj.length) _ (λk=>k.ok) (λi f a Q j d=>?_) (λf g=>?_) (by omega);{have:=hs.part _ (bB a);simp only[cK a,Υ,ca a,az,bR (show i<1000000 by omega),bp,aU,bD];refine ⟨λe=>d (by omega),λe=>?_⟩;refine (ascending _ _ (by omega)).bind λr l=>?_;simp only[bp,aU,il,pM];grind};simp only[dY,bY,cq,aU,Rg];exact ⟨by omega,by omega,g⟩
def WF(s:bj)(hs:mW s):g_ (zdc 5000 s) (pg s):=by have:=hs.parts;simp only[zdc,eO];refine TM s.aJ (λp=>1<=p.length/\ny p s.aj.length) _ (λk=>k.ok) (λi f a Q j d=>?_) (λf g=>?_) (by omega);{have:=hs.part _ (bB a);simp only[cK a,Υ,ca a,az,bR (show i<1000000 by omega),bp,aU,bD];refine ⟨λe=>d (by omega),λe=>?_⟩;refine (Hg _ _ (by omega)).bind λr l=>?_;simp only[bp,aU,il,pM];grind};simp only[dY,bY,cq,Cb,az,aU,bH,bD];exact ⟨λh=>⟨by omega,by omega,g⟩,λh=>by grind [pg.lo,pg.hi]⟩
structure Bz (s:bj) (q:uN):Prop where
 part:0<=q.Part/\q.Part<s.aJ.length
 wP:ny q.aX s.aX
 aR:1<=q.ki/\q.ki<=256
 run:1<=q.nU/\q.nU<=256
 user:1<=q.jb/\q.jb<=256
 qos:0<=q.gO/\q.gO<=100
structure qH (s:bj):Prop where
 lo:1<=s.am.length
 hi:s.am.length<=8
 ok:∀q∈s.am,Bz s q
def Ou(s:bj)(hs:mW s):g_ (zfi 5000 s) (qH s):=by simp only[zfi,eO,bp,aU];refine ⟨λh=>?_,λh=>?_⟩;{simp only[gy,bD] at h;simp only[bY,HX];grind [qH.lo,qH.hi]};simp only[gy,bD,ϥ] at h;refine TM s.am (Bz s) _ (λk=>k.ok) (λi f a Q l d=>?_) (λf m=>?_) (by omega);{have:=hs.queue _ (bB a);simp only[cK a,Υ,ca a,az,bR (show i<1000000 by omega),bY,cq];rw[bp];refine ⟨λe=>?_,λe=>?_⟩;{simp only[gy,bD] at e;rw[aU];exact d λk=>by have:=k.part;omega};simp only[gy,bD,ϥ] at e;refine (ascending _ _ (by omega)).bind λr n=>?_;rw[bp];refine ⟨λg=>?_,λg=>?_⟩;{grind [aU,Bz.wP]};simp only[il,pM] at g;refine lpN [_,_,_] 1 256 3 rfl (λp=>d λk=>p (Jy.2 ⟨k.aR,k.run,k.user⟩)) (λq=>?_) (by simp);obtain ⟨t,u,v⟩:=Jy.1 q;rw[bp];refine ⟨λj=>?_,λj=>?_⟩;{simp only[gy,bD] at j;rw[aU];exact d λk=>by have:=k.qos;omega};simp only[gy,bD,ϥ] at j;exact l ⟨by omega,n.1 g,t,u,v,by omega⟩};simp only[dY,bY,cq,aU,Rg];exact ⟨by omega,by omega,m⟩
def RX(s:bj)(hs:mW s):g_ (zcQ 5000 s) (qH s):=by have:=hs.gF;simp only[zcQ,eO];refine TM s.am (Bz s) _ (λk=>k.ok) (λi f d Q j a=>?_) (λf l=>?_) (by omega);{have:=hs.queue _ (bB d);simp only[cK d,Υ,ca d,az,bR (show i<1000000 by omega),bY,cq];rw[bp];refine ⟨λe=>?_,λe=>?_⟩;{simp only[gy,bD] at e;rw[aU];exact a λk=>by have:=k.part;omega};simp only[gy,bD,ϥ] at e;refine (Hg _ _ (by omega)).bind λr m=>?_;simp only[Cb,az,bp,aU,il,pM,bH,bD,yBL,yBp];refine ⟨λg=>a λk=>by grind [Bz.wP],λg=>⟨λn=>a λk=>by have:=k.aR;omega,λn=>⟨λp=>a λk=>by have:=k.run;omega,λp=>⟨λq=>a λk=>by have:=k.user;omega,λq=>⟨λt=>a λk=>by have:=k.qos;omega,λt=>?_⟩⟩⟩⟩⟩;exact j ⟨by omega,m.1 g,by omega,by omega,by omega,by omega⟩};simp only[dY,bY,cq,Cb,az,aU,bH,bD];exact ⟨λh=>⟨by omega,by omega,l⟩,λh=>by have:=h.lo;have:=h.hi;omega⟩
structure CZ (w:UC):Prop where
 age:0<=w.mg/\w.mg<=1000
 size:0<=w.dt/\w.dt<=1000
 qos:0<=w.gO/\w.gO<=1000
 share:0<=w.bX/\w.bX<=1000
def Ll(w:UC):g_ (zeG 5000 w) (CZ w):=by simp only[zeG];refine lpN [w.mg,w.dt,w.gO,w.bX] 0 1000 4 rfl (λh=>?_) (λh=>?_) (by simp);{simp only[bY,HX];exact λv=>h (BK.2 ⟨v.age,v.size,v.qos,v.share⟩)};rw[aU];obtain ⟨a,d,e,f⟩:=BK.1 h;exact ⟨λ_=>⟨a,d,e,f⟩,λ_=>rfl⟩
structure bA (s:bj):Prop where
 nodes:pF s
 parts:pg s
 wP:1<=s.aX/\s.aX<=8
 gF:qH s
 weights:CZ s.aq
 decay:1<=s.ce/\s.ce<=16
 mode:s.Mode=1\/s.Mode=2
 aR:1<=s.ae/\s.ae<=256
 ids:1<=s.kD/\s.kD<=1048576
 qM:1<=s.aK/\s.aK<=65536
 linger:0<=s.bx/\s.bx<=65536
 keep:1<=s.dB/\s.dB<=16
 NJ:1<=s.In/\s.In<=8
 out:1<=s.Out/\s.Out<=16
 cache:0<=s.cn/\s.cn<=16
def sG(s:bj)(hs:mW s):g_ (Uu 5000 s) (bA s):=by simp only[Uu,Dq];obtain ⟨N,z,m⟩:=RU s;obtain ⟨O,A,n⟩:=Tz s hs;obtain ⟨S,E,q⟩:=Ou s hs;obtain ⟨U,F,r⟩:=Ll s.aq;simp only[z,A,E,F,az];have T:∀(x:Χ),x.toList≠[]->(¬bA s)->bF ((Α x).bind λa=>Α (a.toList == (⟨#[]⟩:Χ).toList)) λb=>b=Γ↔bA s:=λx G W=>by{rw[az,aU];simp_all};have step:∀(c:Λ)(x:Χ)(o:Δ Χ),x.toList.isEmpty=Θ->(c=Θ->¬bA s)->(c=Γ->bF (o.bind λa=>Α (a.toList == (⟨#[]⟩:Χ).toList)) λb=>b=Γ↔bA s) -> bF ((if (!c)=Γ then Α x else o).bind λa=>Α (a.toList == (⟨#[]⟩:Χ).toList)) λb=>b=Γ↔bA s:=λc x o G m n=>by{grind};have nb:∀{b:Λ}{p:Prop},(b=Γ↔p)->b=Θ->¬p:=λh e Y=>by{simp_all};refine step _ _ _ (by kernel_rfl) (λe k=>nb m e k.nodes) λc1=>?_;refine step _ _ _ (by kernel_rfl) (λe k=>nb n e k.parts) λK=>?_;refine step _ _ _ (by kernel_rfl) (λe k=>by grind [bA.wP]) λt=>?_;refine step _ _ _ (by kernel_rfl) (λe k=>nb q e k.gF) λL=>?_;refine step _ _ _ (by kernel_rfl) (λe k=>nb r e k.weights) λM=>?_;refine step _ _ _ (by kernel_rfl) (λe k=>by grind [bA.decay]) λu=>?_;refine step _ _ _ (by kernel_rfl) (λe k=>by grind [bA.mode]) λv=>?_;refine step _ _ _ (by kernel_rfl) (λe k=>by grind [bA.aR]) λw=>?_;refine step _ _ _ (by kernel_rfl) (λe k=>by grind [bA.ids]) λy=>?_;refine step _ _ _ (by kernel_rfl) (λe k=>by grind [bA.qM]) λd=>?_;refine step _ _ _ (by kernel_rfl) (λe k=>by grind [bA.linger]) λf=>?_;refine step _ _ _ (by kernel_rfl) (λe k=>by grind [bA.keep]) λg=>?_;refine step _ _ _ (by kernel_rfl) (λe k=>by grind [bA.NJ]) λi=>?_;refine step _ _ _ (by kernel_rfl) (λe k=>by grind [bA.out]) λj=>?_;refine step _ _ _ (by kernel_rfl) (λe k=>by grind [bA.cache]) λl=>?_;rw[az,aU];simp only[yCz,Rg];simp only[bH,gy,bD,jN] at t u v w y d f g i j l;exact ⟨m.1 c1,n.1 K,t,q.1 L,r.1 M,u,v,w,y,d,f,g,i,j,l⟩
theorem OW{n:Ε}(hN:15<n){s:bj}{g j m:Λ}(T:zdo n s=Α g)(F:g=Γ↔pF s)(U:zdc n s=Α j)(G:j=Γ↔pg s)(W:zcQ n s=Α m)(K:m=Γ↔qH s):g_ (zdg n s) (bA s):=by simp only[zdg,jg,T,U,W,az,Cb,eO];have d:∀w:Λ,(w=Γ↔CZ s.aq)->∀(L:Β Λ)(M:Β Χ),L=[g,j,Ι (1<=s.aX)&&Ι (s.aX<=8),m,w,Ι (1<=s.ce)&&Ι (s.ce<=16),Ι (1<=s.Mode)&&Ι (s.Mode<=2),Ι (1<=s.ae)&&Ι (s.ae<=256),Ι (1<=s.kD)&&Ι (s.kD<=1048576),Ι (1<=s.aK)&&Ι (s.aK<=65536),Ι (0<=s.bx)&&Ι (s.bx<=65536),Ι (1<=s.dB)&&Ι (s.dB<=16),Ι (1<=s.In)&&Ι (s.In<=8),Ι (1<=s.Out)&&Ι (s.Out<=16),Ι (0<=s.cn)&&Ι (s.cn<=16)] -> (∀x∈M,x.toList≠[])->M.length=15 -> bF ((bE (λ(p:Η->Δ Χ) (e:Η)=>if (Ι (e<15))=Γ then (aG L e).bind λq=>if (!q)=Γ then (aG M e).bind λr=>Α r else p (i64.wrap (e+1)) else Α (⟨#[]⟩:Χ)) n 0).bind λY=>Α (Y.toList == (⟨#[]⟩:Χ).toList)) λb=>b=Γ↔bA s:=by{intro w N L M Z hM O;have S:L.length=15:=by{simp_all};have t:(15:Η)=(L.length:Η):=by{omega};have all:(∀x∈L,x=Γ)↔bA s:=by{rw[Z];simp only[fO,NI,NE,forall_eq_or_imp,forall_eq,bH,bD];constructor;{rintro ⟨c1,c2,c3,c4,c5,c6,c7,c8,c9,u,v,y,z,A,E⟩;exact ⟨F.1 c1,G.1 c2,c3,K.1 c4,N.1 c5,c6,by omega,c8,c9,u,v,y,z,A,E⟩};intro k;have:=k.mode;exact ⟨F.2 k.nodes,G.2 k.parts,k.wP,K.2 k.gF,N.2 k.weights,k.decay,by omega,k.aR,k.ids,k.qM,k.linger,k.keep,k.NJ,k.out,k.cache⟩};rw[Zd,t];have nil:(⟨#[]⟩:Χ).toList=[]:=by{kernel_rfl};refine xq L (λ_ x=>x=Γ) (λi f h _ hr=>?_) (λf hA=>?_) (by omega);{simp only[cK h,Υ,ca h,ca (l:=M) (show i<M.length by omega),az,bR (show i<1000000 by omega),bp,aU,il,pM,nil,jN] at hr ⊢;grind [Β.getElem_mem]};simp only[dY,bY,cq,aU,yCz,Rg];exact all.1 (DC hA)};have a:∀x∈([(⟨#[78,111,100,101,115]⟩:Χ),(⟨#[80,97,114,116,115]⟩:Χ),(⟨#[85,115,101,114,115]⟩:Χ),(⟨#[81,117,101,117,101,115]⟩:Χ),(⟨#[87,101,105,103,104,116,115]⟩:Χ),(⟨#[68,101,99,97,121]⟩:Χ),(⟨#[77,111,100,101]⟩:Χ),(⟨#[74,111,98,115]⟩:Χ),(⟨#[73,100,115]⟩:Χ),(⟨#[86,101,114,115,105,111,110,115]⟩:Χ),(⟨#[76,105,110,103,101,114]⟩:Χ),(⟨#[75,101,101,112]⟩:Χ),(⟨#[73,110]⟩:Χ),(⟨#[79,117,116]⟩:Χ),(⟨#[67,97,99,104,101]⟩:Χ)]:Β Χ),x.toList≠[]:=by{simp_all};split;{rename_i w1;split;{rename_i w2;split;{rename_i w3;refine d _ ?_ _ _ rfl a rfl;simp only[bH,bD] at w1 w2 w3 ⊢;exact ⟨λw4=>⟨w1,w2,w3,w4⟩,λk=>k.share⟩};rename_i w3;refine d _ ?_ _ _ rfl a rfl;simp only[bH,bD] at w3;simp only[bY,HX];exact λk=>w3 k.qos};rename_i w2;refine d _ ?_ _ _ rfl a rfl;simp only[bH,bD] at w2;simp only[bY,HX];exact λk=>w2 k.size};rename_i w1;refine d _ ?_ _ _ rfl a rfl;simp only[bH,bD] at w1;simp only[bY,HX];exact λk=>w1 k.age
def Xq(s:bj)(hs:mW s):g_ (zdg 5000 s) (bA s):=by obtain ⟨a,d,e⟩:=YI s hs;obtain ⟨f,g,h⟩:=WF s hs;obtain ⟨i,j,k⟩:=RX s hs;grind [OW]
structure Ck (L:Β (Η×Η)) (k:Η):Prop where
 lo:0<=k
 hi:k<=64
 fit:∀p∈L,k * p.2<=p.1
 max:k<64->∃p∈L,p.1<(k+1) * p.2
def Ck.Dc{L:Β (Η×Η)}{k i:Η}(s:∀p∈L,0<=p.2)(h:Ck L k)(A:Ck L i):k=i:=by have u:∀{a b:Η},Ck L a->Ck L b->¬a<b:=λ{a b} x hb z=>by{obtain ⟨p,j,E⟩:=x.max (by have:=hb.hi;omega);have F:=hb.fit p j;have G:(a+1) * p.2<=b * p.2:=yAV (by omega) (s p j);omega};grind
theorem Ck.nil:Ck [] 64:=⟨by omega,by omega,by simp,by simp⟩
def qm(n a b:Η):Η:=if b > 0 then (if a.tdiv b<n then a.tdiv b else n) else n
def Ck.step{L:Β (Η×Η)}{k a b:Η}(h:Ck L k)(z:∀p∈L,0<=p.2)(s:0<=a)(hb:0<=b):Ck (L++[(a,b)]) (qm k a b):=by unfold qm;have u:=h.lo;have x:=h.hi;split;{rename_i j;rw[Η.tdiv_eq_ediv_of_nonneg s];have K:a / b * b<=a:=Η.ediv_mul_le a (by omega);have A:a<(a / b+1) * b:=Η.lt_ediv_add_one_mul_self a j;have E:0<=a / b:=I9 s (by omega);split;{rename_i F;refine ⟨E,by omega,λp i=>?_,λ_=>⟨(a,b),by simp,A⟩⟩;rcases li.1 i with i | i;{have:=h.fit p i;have:a / b * p.2<=k * p.2:=yAV (by omega) (z p i);omega};simp_all};rename_i G;refine ⟨u,x,λp i=>?_,λhk=>?_⟩;{rcases li.1 i with i | i;{exact h.fit p i};simp only[zC] at i;subst i;have:k * b<=a / b * b:=yAV (by omega) (by omega);grind};obtain ⟨p,i,q⟩:=h.max hk;grind};rename_i j;have:b=0:=by{omega};subst this;refine ⟨u,x,λp i=>?_,λhk=>?_⟩;{rcases li.1 i with i | i;{exact h.fit p i};simp_all};obtain ⟨p,i,q⟩:=h.max hk;grind
theorem Sd{n a b:Η}(h:b > 0):qm n a b=if a.tdiv b<n then a.tdiv b else n:=by unfold qm;omega
theorem Sj{n a b:Η}(h:¬b > 0):qm n a b=n:=by unfold qm;omega
def HZ(a b:aE):Β (Η×Η):=[(a.bS,b.bS),(a.Mem,b.Mem),(a.bU,b.bU),(a.bW,b.bW)]
def eE(a b:aE):Η:=qm (qm (qm (qm 64 a.bS b.bS) a.Mem b.Mem) a.bU b.bU) a.bW b.bW
def xT{a b:aE}(d:aP a)(hb:aP b):Ck (HZ a b) (eE a b):=by have e:=Ck.nil;have f:=e.step (by simp) d.ED.1 hb.ED.1;have g:=f.step (by simp;exact hb.ED.1) d.mem.1 hb.mem.1;have h:=g.step (by simp;exact ⟨hb.ED.1,hb.mem.1⟩) d.FT.1 hb.FT.1;have i:=h.step (by simp;exact ⟨hb.ED.1,hb.mem.1,hb.FT.1⟩) d.HY.1 hb.HY.1;exact i
theorem w1:i64.wrap (0+1)=1:=rfl
theorem w2:i64.wrap (1+1)=2:=rfl
theorem w3:i64.wrap (2+1)=3:=rfl
theorem w4:i64.wrap (3+1)=4:=rfl
theorem wq{a b:Η}(d:0<=a/\a<=1048576)(hb:0<b):Qf .i64 a b=Α (a.tdiv b):=by unfold Qf;rw[Κ (by omega)];have e:0<=a / b:=I9 d.1 (by omega);have f:a / b<=a:=Η.ediv_le_self b d.1;grind [wr]
def stc(a b:aE):Ε->Η|0=>64|1=>qm 64 a.bS b.bS|2=>qm (qm 64 a.bS b.bS) a.Mem b.Mem|3=>qm (qm (qm 64 a.bS b.bS) a.Mem b.Mem) a.bU b.bU|_=>eE a b
def count{a b:aE}(g:aP a)(hb:aP b)(p:b≠b_):mS 5000 a b=Α (eE a b):=by obtain ⟨q,h,j⟩:=Uf a;obtain ⟨r,k,l⟩:=Uf b;have m:=j.2 g;have n:=l.2 hb;subst m n;have d:aE.beq b b_=Θ:=by{grind [iH]};simp only[mS,eO,h,k,az,OG,bY,cq,Λ.false_or,gW];change (if aE.beq b b_=Γ then Α 0 else _)=_;rw[d];simp only[bY,cq];refine bF.eq (fE 4 (λi x=>x=(stc a b i,(i:Η))) (λi x f hi e s=>?_) (λx f e=>?_) rfl (by omega));{subst e;rcases (show i=0\/i=1\/i=2\/i=3 by omega) with rfl | rfl | rfl | rfl;{rw[show ((0:Ε):Η)=0 from rfl];simp only[show Ι ((0:Η)<4)=Γ from rfl,Υ,at4x0,az,w1,bp,bD];grind [stc,qm,wq,aP.ED]};{rw[show ((1:Ε):Η)=1 from rfl];simp only[show Ι ((1:Η)<4)=Γ from rfl,Υ,at4x1,az,w2,bp,bD];grind [stc,Sj,wq,aP.mem,Sd]};{rw[show ((2:Ε):Η)=2 from rfl];simp only[show Ι ((2:Η)<4)=Γ from rfl,Υ,at4x2,az,w3,bp,bD];grind [stc,Sj,wq,aP.FT,Sd]};rw[show ((3:Ε):Η)=3 from rfl];simp only[show Ι ((3:Η)<4)=Γ from rfl,Υ,at4x3,az,w4,bp,bD];grind [stc,eE,Sj,wq,aP.HY,Sd]};subst e;simp only[show Ι (((4:Ε):Η)<4)=Θ from rfl,bY,cq,aU];rfl
def Kx{b:aE}(hb:aP b):Sl 5000 b b_=Α (Ι (b=b_)):=by simp only[Sl,ay];have:=hb.ED;have:=hb.mem;have:=hb.FT;have:=hb.HY;rw[xAc];simp only[bH,bD];obtain ⟨a,d,e,f⟩:=b;grind [b_]
def CN{a b:aE}(g:aP a)(hb:aP b)(w:b≠b_):zbM 5000 a b=Α (eE a b):=by obtain ⟨T,z,t⟩:=Br a;obtain ⟨U,A,u⟩:=Br b;have E:=t.2 g;have F:=u.2 hb;subst E F;simp only[zbM,eO,z,A,az,OG,bY,cq];have G:Sl 5000 b ({ bS:=0,Mem:=0,bU:=0,bW:=0 }:aE)=Α (Ι (b=b_)):=Kx hb;rw[G];simp only[az,w,decide_false,bY,cq];have W:=g.ED;have Y:=g.mem;have Z:=g.FT;have hl:=g.HY;have l:=hb.ED;have m:=hb.mem;have n:=hb.FT;have q:=hb.HY;have K:∀p∈HZ a b,0<=p.2:=by{intro p e;simp only[HZ,fO,NI,NE] at e;rcases e with rfl | rfl | rfl | rfl;{omega};{omega};{omega};omega};have done:∀k:Η,Ck (HZ a b) k->k=eE a b:=λk hk=>hk.Dc K (xT g hb);have d:∀{i:Ε}{y:Η},i<=65->0<=y/\y<=1048576->0<=(i:Η) * y/\(i:Η) * y<=68157440:=λ{i y} hi v=>by{have t:0<=(i:Η) * y:=yCh (by omega) v.1;have u:(i:Η) * y<=65 * y:=yAV (by omega) v.1;omega};refine bF.eq (fE 64 (λi x=>x=((i:Η),((i+1:Ε):Η) * b.bS,((i+1:Ε):Η) * b.Mem,((i+1:Ε):Η) * b.bU,((i+1:Ε):Η) * b.bW)/\∀p∈HZ a b,(i:Η) * p.2<=p.1) (λi x f hi r L=>?_) (λx f r=>?_) ⟨by simp,λp e=>?_⟩ (by omega));{obtain ⟨rfl,s⟩:=r;have m1:=d (i:=i+1) (by omega) l;have m2:=d (i:=i+1) (by omega) m;have m3:=d (i:=i+1) (by omega) n;have m4:=d (i:=i+1) (by omega) q;have j:∀y:Η,((i+1:Ε):Η) * y+y=((i+1+1:Ε):Η) * y:=λy=>by{grind};simp only[show Ι ((i:Η)<64)=Γ by grind,Υ,Sl,az,zbf,bp,aU,bH,bD,bR (show i<1000000 by omega)];rw[wr (by omega) (by omega),wr (by omega) (by omega),wr (by omega) (by omega),wr (by omega) (by omega),j,j,j,j];refine ⟨λh=>L _ ⟨rfl,λp e=>?_⟩,λh=>done _ ⟨by omega,by omega,s,λ_=>?_⟩⟩;{simp only[HZ,fO,NI,NE] at e;rcases e with rfl | rfl | rfl | rfl;{simp_all};{simp_all};{simp_all};simp_all};rw[show ((i:Η)+1)=((i+1:Ε):Η) by omega];by_cases M:a.bS<((i+1:Ε):Η) * b.bS;{exact ⟨(a.bS,b.bS),by simp[HZ],M⟩};by_cases N:a.Mem<((i+1:Ε):Η) * b.Mem;{exact ⟨(a.Mem,b.Mem),by simp[HZ],N⟩};by_cases O:a.bU<((i+1:Ε):Η) * b.bU;{exact ⟨(a.bU,b.bU),by simp[HZ],O⟩};by_cases S:a.bW<((i+1:Ε):Η) * b.bW;{exact ⟨(a.bW,b.bW),by simp[HZ],S⟩};omega};{obtain ⟨rfl,s⟩:=r;simp only[show Ι (((64:Ε):Η)<64)=Θ from rfl,bY,cq,aU];exact done _ ⟨by omega,by omega,s,λh=>by omega⟩};simp only[HZ,fO,NI,NE] at e;grind
def DR(s:bj)(l:Β Η)(need:aE):Η:=(l.map λn=>eE ((s.aj[n.toNat]?).getD b_) need).sum
def TO{a b:aE}(d:aP a)(hb:aP b):0<=eE a b/\eE a b<=64:=⟨(xT d hb).lo,(xT d hb).hi⟩
def JD{s:bj}{need:aE}(k:bA s)(n:aP need)(E:need≠b_){l:Β Η}(hl:l.length<=300)(p:ny l s.aj.length)(C:aE->Δ Η)(r:∀a,aP a->C a=Α (eE a need)) : bE (λ(t:Η×Η->Δ Η) (g:Η×Η)=>if (Ι (g.2<(l.length:Η)))=Γ then (aG l g.2).bind λu=>(aG s.aj u).bind λv=>(C v).bind λw=>t ((i64.wrap (g.1+w)),(i64.wrap (g.2+1))) else Α g.1) 5000 (0,0)=Α (DR s l need):=by have z:∀(m:Β Η),(∀x∈m,x∈l)->0<=DR s m need/\DR s m need<=64 * m.length:=by{intro m;induction m with|nil=>grind [DR]|cons x m ih=>intro h;have F:=ih λy A=>h y (oJ _ A);have q:=p.mem x (h x (rO ..));have d:x.toNat<s.aj.length:=by{omega};have:=TO (k.nodes.ok (s.aj[x.toNat]) (bB d)) n;grind [DR]};refine bF.eq (fE l.length (λi x=>x=(DR s (l.take i) need,(i:Η))) (λi x f hi d j=>?_) (λx f d=>?_) (by grind) (by omega));{subst d;have q:=p.mem l[i] (bB hi);obtain ⟨d,e⟩:=Fb q.1 q.2;have c:=TO (k.nodes.ok (s.aj[l[i].toNat]) (bB d)) n;have b:=z (l.take i) λx d=>Mn d;have G:((l.take i).length:Η)<=300:=by{grind};simp only[cK hi,Υ,ca hi,az,e,r _ (k.nodes.ok _ (bB d)),bR (show i<1000000 by omega)];rw[wr (by omega) (by omega)];refine j _ ?_;congr 1;rw[Ee hi];simp only[DR,yB5,qE,Β.map_nil,yC8,yBT,Β.sum_nil,eW d,UD];omega};subst d;simp only[dY,bY,cq,aU,xh]
def UJ{s:bj}(hs:mW s)(k:bA s){q m:Η}{need:aE}(d:aP need)(f:need≠b_):∃b,jZ 5000 s q m need=Α b/\zdF 5000 s q m need=Α b:=by obtain ⟨v,h,r⟩:=sG s hs;have t:=r.2 k;subst t;by_cases j:0<=q/\q<s.am.length/\1<=m;{obtain ⟨u,e⟩:=Fb j.1 j.2.1;have g:=k.gF.ok _ (bB u);obtain ⟨l,n⟩:=Fb g.part.1 g.part.2;have p:=k.parts.ok _ (bB l);have lp:=hs.part _ (bB l);refine ⟨Ι (DR s (s.aJ[s.am[q.toNat].Part.toNat]) need≥m),?_,?_⟩;{simp only[jZ,h,az];rw[Κ (by simp_all),e,az];simp only[Ce,h,az];rw[Κ (by have:=g.part;simp;omega),n,az];have:=JD k d f (kz lp (by decide)) p.2 (λa=>mS 5000 a need) (λa i=>count i d f);rw[this,az]};simp only[zdF];rw[Ν (by simp_all),e,az];simp only[iL];rw[Κ (by have:=g.part;simp_all)];simp only[n,az];have:=JD k d f (kz lp (by decide)) p.2 (λa=>zbM 5000 a need) (λa i=>CN i d f);rw[this,az]};refine ⟨Θ,?_,?_⟩;{simp only[jZ,h,az];grind};simp only[zdF];grind
structure AT (j:aH):Prop where
 st:1<=j.State/\j.State<=6
 start:j.Start≠0->3<=j.State
 fin:j.End≠0->5<=j.State
 ok:j.Ok=Γ->j.State=4\/j.State=5
 kill:j.cM=Γ->j.State=4\/j.State=6
structure eK (j:aH):Prop where
 id:1<=j.Id/\j.Id<=1048576
 user:0<=j.cu/\j.cu<=7
 queue:0<=j.Queue/\j.Queue<=7
 many:1<=j.aQ/\j.aQ<=64
 need:aP j.aB
 wY:j.aB≠b_
 wall:1<=j.aS/\j.aS<=65536
 fj:j.aF.length<=4
 after:∀d∈j.aF,1<=d.aZ/\d.aZ<=j.Id-1
 version:1<=j.aM/\j.aM<=281474976710656
 born:0<=j.cV/\j.cV<=1099511627776
 start:0<=j.Start/\j.Start<=1099511627776
 fin:0<=j.End/\j.End<=1099511627776
 arr:0<=j.Array/\j.Array<=j.Id
 state:AT j
def name_ok(x:Η):bF (xr 5000 x) λr=>r.toList=[]↔¬(1<=x/\x<=6):=by simp only[xr,bp,aU,jN];have e:(⟨#[]⟩:Χ).toList=[]:=by{kernel_rfl};refine ⟨λh=>?_,λa=>⟨λh=>?_,λd=>⟨λh=>?_,λf=>⟨λh=>?_,λg=>⟨λh=>?_,λi=>⟨λh=>?_,λj=>?_⟩⟩⟩⟩⟩⟩;{simp_all};{simp_all};{simp_all};{simp_all};{simp_all};{simp_all};grind
def OQ(j:aH):g_ (iF 5000 j) (AT j):=by have e:(⟨#[]⟩:Χ).toList=[]:=by{kernel_rfl};simp only[iF,eO];refine (name_ok j.State).bind λr i=>?_;have no:∀{p:Prop},¬p->(Θ=Γ↔p):=λh=>by{simp[h]};rw[bp];refine ⟨λh=>?_,λh=>?_⟩;{rw[aU];simp only[e,jN] at h;exact no λk=>i.1 h k.st};simp only[e,jN] at h;have hs:1<=j.State/\j.State<=6:=yCx λl=>h (i.2 l);simp only[gE,Rk,az,bY,cq];have fin:∀Q:Prop,(Q↔((j.Ok=Γ->j.State=4\/j.State=5)/\(j.cM=Γ->j.State=4\/j.State=6)->AT j)/\True)->True:=λ_ _=>trivial;have a:(j.Start≠0->3<=j.State)->(j.End≠0->5<=j.State)->bF (if ((j.Ok&&(j.State != 4))&&(j.State != 5))=Γ then Α Θ else if ((j.cM&&(j.State != 4))&&(j.State != 6))=Γ then Α Θ else Α Γ) λb=>b=Γ↔AT j:=λf m=>by{simp only[bp,aU,bH,Jf,fm];refine ⟨λq=>no λk=>by have:=k.ok q.1.1;omega,λn=>⟨λq=>no λk=>by have:=k.kill q.1.1;omega,λd=>?_⟩⟩;simp only[Rg];refine ⟨hs,f,m,λo=>?_,λo=>?_⟩;{grind};grind};have mid:(j.Start≠0->3<=j.State)->bF (if (j.End != 0)=Γ then (if (!((j.State == 5) || (j.State == 6)))=Γ then Α Θ else if ((j.Ok&&(j.State != 4))&&(j.State != 5))=Γ then Α Θ else if ((j.cM&&(j.State != 4))&&(j.State != 6))=Γ then Α Θ else Α Γ) else if ((j.Ok&&(j.State != 4))&&(j.State != 5))=Γ then Α Θ else if ((j.cM&&(j.State != 4))&&(j.State != 6))=Γ then Α Θ else Α Γ) λb=>b=Γ↔AT j:=λf=>by{rw[bp];refine ⟨λq=>?_,λq=>a f λg=>φ g (by simp_all)⟩;rw[bp];refine ⟨λd=>?_,λd=>a f λ_=>?_⟩;{rw[aU];simp only[Jf,fm,il,C6,beq_eq_false_iff_ne] at q d;exact no λk=>by have:=k.fin q;omega};grind [C6]};rw[bp];refine ⟨λq=>?_,λq=>mid λg=>φ g (by simp_all)⟩;rw[bp];refine ⟨λd=>?_,λd=>mid λ_=>?_⟩;{rw[aU];simp only[Jf,fm,gy,jN] at q d;exact no λk=>by have:=k.start q;omega};grind
def xG(j:aH):g_ (ZD 5000 j) (eK j):=by have no:∀{p:Prop},¬p->bF (Α Θ) (λb=>b=Γ↔p):=λh=>by{rw[aU];simp[h]};simp only[ZD,Ru,az];have a:∀{l hi x:Η}{o:Δ Λ}{P:Prop},(P->l<=x/\x<=hi)->(l<=x/\x<=hi->bF o λb=>b=Γ↔P)->bF (if (Ι (l<=x)&&Ι (x<=hi))=Γ then o else Α Θ) λb=>b=Γ↔P:=λu m=>by{rw[bp];simp only[bH,bD];exact ⟨λh=>m h,λh=>no λp=>h (u p)⟩};refine a (λk=>k.id) λc1=>a (λk=>k.user) λA=>a (λk=>k.queue) λE=>a (λk=>k.many) λF=>?_;refine (Uf j.aB).bind λr v=>?_;rw[bp];refine ⟨λh=>?_,λh=>no λk=>h ?_⟩;rotate_left;{have N:aE.beq j.aB b_=Θ:=by{grind [iH,eK.wY]};rw[v.2 k.need];change (Γ&&!(aE.beq j.aB b_))=Γ;simp_all};simp only[bH,il] at h;have G:=v.1 h.1;have n:j.aB≠b_:=λe=>by{have m:aE.beq j.aB b_=Θ:=h.2;grind [iH]};refine a (λk=>k.wall) λK=>?_;have g:g_ (iZ 5000 j) (j.aF.length<=4/\∀d∈j.aF,1<=d.aZ/\d.aZ<=j.Id-1):=by{simp only[iZ,bp,aU,Ru,az];refine ⟨λh=>?_,λh=>?_⟩;{grind};simp only[bD] at h;refine TM j.aF (λd=>1<=d.aZ/\d.aZ<=j.Id-1) _ (λk=>k.2) (λi f w Q u m=>?_) (λf O=>?_) (by omega);{simp only[cK w,Υ,ca w,az,bR (show i<1000000 by omega),bp,aU,il,yBL,yBp];grind [wr]};simp only[dY,bY,cq,aU,Rg];grind};refine g.bind λS y=>?_;rw[bp];refine ⟨λh=>?_,λh=>no λk=>h (y.2 ⟨k.fj,k.after⟩)⟩;have z:=y.1 h;refine a (λk=>k.version) λL=>a (λk=>k.born) λM=>a (λk=>k.start) λq=>a (λk=>k.fin) λs=>a (λk=>k.arr) λt=>?_;refine (OQ j).bind λrs hs=>?_;rw[aU,hs];exact ⟨λk=>⟨c1,A,E,F,G,n,K,z.1,z.2,L,M,q,s,t,k⟩,λk=>k.state⟩
def IV(j:aH)(hl:j.aF.length<=10):g_ (zd7 5000 j) (eK j):=by simp only[zd7,eO,Ws,az];refine TM j.aF (λd=>1<=d.aZ/\d.aZ<=i64.wrap (j.Id-1)) _ (λk d a=>by have:=k.after d a;have:=k.id;grind [wr]) (λi f e Q g A=>?_) (λf E=>?_) (by omega);{simp only[cK e,Υ,ca e,az,bR (show i<1000000 by omega),bp,aU,il,yBL,yBp];grind};simp only[dY,bY,cq];obtain ⟨F,l,g⟩:=Br j.aB;simp only[l,az];have no:∀{p:Prop},¬p->(False↔p):=λh=>by{simp[h]};simp only[Υ,cq,bp,aU,bD,il,yBL,yBp,bH,bY,pM,Jf,fm,gy,jN];refine ⟨λc=>no λk=>by grind [eK.fj],λG=>⟨λc=>no λk=>by have:=k.id;omega,λc1=>⟨λc=>no λk=>by have:=k.user;omega,λK=>⟨λc=>no λk=>by have:=k.queue;omega,λL=>⟨λc=>no λk=>by have:=k.many;omega,λM=>⟨λc=>no λk=>(by grind [eK.need]),λm=>?_⟩⟩⟩⟩⟩⟩;have v:=g.1 m;have n:Sl 5000 j.aB ({ bS:=0,Mem:=0,bU:=0,bW:=0 }:aE)=Α (Ι (j.aB=b_)):=Kx v;simp only[Υ,cq,n,az,bp,aU,bD,il,yBL,yBp,bH,bY,pM,Jf,fm,gy,jN];refine ⟨λc=>no λk=>k.wY c,λq=>⟨λc=>no λk=>by have:=k.wall;omega,λN=>⟨λc=>no λk=>by have:=k.state.st;omega,λO=>⟨λc=>no λk=>by have:=k.version;omega,λS=>⟨λc=>no λk=>by have:=k.arr;omega,λr=>⟨λc=>no λk=>by have:=k.born;omega,λs=>⟨λc=>no λk=>by have:=k.start;omega,λt=>⟨λc=>no λk=>by have:=k.fin;omega,λu=>⟨λc=>no λk=>by have:=k.state.start;omega,λw=>⟨λc=>no λk=>by have:=k.state.fin;omega,λx=>⟨λy=>?_,λc=>no λk=>c ?_⟩⟩⟩⟩⟩⟩⟩⟩⟩⟩⟩;{constructor;{intro z;refine ⟨by omega,by omega,by omega,by omega,v,q,by omega,by omega,λd a=>?_,by omega,by omega,by omega,by omega,by omega,⟨by omega,by omega,by omega,λo=>?_,λo=>?_⟩⟩;{grind [wr]};{simp_all};simp_all};intro k;cases hk:j.cM with|false=>simp_all|true=>rcases k.state.kill hk with c | c;{omega};omega};cases hk:j.Ok with|false=>simp_all|true=>rcases k.state.ok hk with c | c;{omega};omega
section
variable{X R:Type}{b:(X->Δ R)->X->Δ R}{Q:R->Prop}
theorem lpM(I:X->Prop)(m:X->Ε)(hs:∀x f,I x->(∀d,I d->m d<m x->bF (f d) Q)->bF (b f x) Q){a:X}(g:I a){N:Ε}(i:m a<N):bF (bE b N a) Q:=by induction N generalizing a with|zero=>omega|succ N ih=>exact hs a _ g λd e h=>ih e (by omega)
end
def mid{i j:Ε}(h:i+j<1000000):i64.wrap (π (u64.wrap (i64.wrap ((i:Η)+(j:Η)))) (2 ^ 1))=(((i+j) / 2:Ε):Η):=by rw[wr (x:=(i:Η)+(j:Η)) (by omega) (by omega)];grind [Go.IntKind.wrap,Go.IntKind.bits]
def bN(l:Β aH):Prop:=∀i (h:i+1<l.length),l[i].Id<l[i+1].Id
theorem bN.lt{l:Β aH}(h:bN l):∀{i j:Ε}(s:i<j)(u:j<l.length),l[i].Id<l[j].Id:=by intro i j s u;induction j with|zero=>omega|succ j ih=>have x:=h j u;grind
theorem bN.inj{l:Β aH}(h:bN l){i j:Ε}(hi:i<l.length)(u:j<l.length)(e:l[i].Id=l[j].Id):i=j:=by rcases Zg i j with s | s | s;{have:=h.lt s u;omega};{exact s};have:=h.lt s hi;omega
structure At (l:Β aH) (id:Η) (r:Η):Prop where
 lo:0<=r
 hi:r.toNat<l.length
 is:l[r.toNat].Id=id
theorem At.mem{l:Β aH}{id r:Η}(h:At l id r):∃j∈l,j.Id=id:=⟨l[r.toNat]'h.hi,bB _,h.is⟩
def At.Dc{l:Β aH}{id r i:Η}(hs:bN l)(h:At l id r)(j:At l id i):r=i:=by have:=hs.inj h.hi j.hi (by grind [At.is]);have:=h.lo;have:=j.lo;omega
def half{l:Β aH}(hl:l.length<=300)(hs:bN l)(id:Η){R:Type}{Q:R->Prop}(C:aH->Δ Λ)(n:∀j∈l,C j=Α (Ι (j.Id<id)))(E:Η->Δ R) (u:∀i:Ε,i<=l.length->(∀k (h:k<l.length),k<i->l[k].Id<id)->(∀k (h:k<l.length),i<=k->id<=l[k].Id)->bF (E (i:Η)) Q) : ∀ (b : (Η × Η -> Δ R) -> Η × Η -> Δ R), (∀ f x, b f x = if Ι (x.1 < x.2) = Γ then (aG l (i64.wrap (π (u64.wrap (i64.wrap (x.1 + x.2))) (2 ^ 1)))).bind λa => (C a).bind λc => if c = Γ then f ((i64.wrap ((i64.wrap (π (u64.wrap (i64.wrap (x.1 + x.2))) (2 ^ 1))) + 1)), x.2) else f (x.1, (i64.wrap (π (u64.wrap (i64.wrap (x.1 + x.2))) (2 ^ 1)))) else E x.1) -> bF (bE b 5000 (0,(l.length:Η))) Q:=by intro b hb;refine lpM (λx=>∃i j:Ε,x=((i:Η),(j:Η))/\i<=j/\j<=l.length/\(∀k (h:k<l.length),k<i->l[k].Id<id)/\(∀k (h:k<l.length),j<=k->id<=l[k].Id)) (λx=>(x.2-x.1).toNat) (λx f p m=>?_) ⟨0,l.length,rfl,by omega,by omega,λk h hk=>by omega,λk h hk=>by omega⟩ (by omega);obtain ⟨i,j,rfl,v,r,s,t⟩:=p;rw[hb,bp];dsimp only;refine ⟨λh=>?_,λh=>?_⟩;{simp only[bD] at h;rw[mid (by omega)];have e:(i+j) / 2<l.length:=by{omega};rw[ca e,az,n _ (bB e),az,bp];refine ⟨λg=>?_,λg=>?_⟩;{simp only[bD] at g;rw[bR (by omega)];refine m _ ⟨(i+j) / 2+1,j,rfl,by omega,r,λk hk d=>?_,t⟩ (by omega);rcases yBw (yC9.1 d) with q | q;{have:=hs.lt q e;omega};simp_all};simp only[bD] at g;refine m _ ⟨i,(i+j) / 2,rfl,by omega,by omega,s,λk hk d=>?_⟩ (by omega);rcases yBw d with q | q;{have:=hs.lt q hk;omega};simp_all};simp only[bD] at h;have:i=j:=by{omega};simp_all
def Uv{l:Β aH}(hl:l.length<=300)(hs:bN l){id:Η}(m:0<=id/\id<=1048576)(g:∀j∈l,0<=j.Id/\j.Id<=1048576):bF (nG 5000 l id) λr=>(r.2=Γ↔∃j∈l,j.Id=id)/\(r.2=Γ->At l id r.1):=by simp only[nG,zaF];rw[Zd];refine half hl hs id (λj=>Α (Ι (i64.wrap (j.Id-id)<0))) (λj d=>?_) (λi=>if (Ι (i<(l.length:Η)))=Γ then (aG l i).bind λn=>(iB 5000 n id).bind λp=>Α (i,(p == 0)) else Α (i,Θ)) (λi hi s t=>?_) _ (λf x=>rfl);{have:=g j d;rw[wr (by omega) (by omega)];grind};rw[bp];refine ⟨λh=>?_,λh=>?_⟩;{simp only[bD] at h;have a:i<l.length:=by{omega};have:=g _ (bB a);rw[ca a,az];simp only[iB,az,aU,jN];rw[wr (by omega) (by omega)];refine ⟨⟨λe=>⟨_,bB a,by omega⟩,λ⟨j,d,e⟩=>?_⟩,λe=>⟨by omega,by omega,by grind⟩⟩;obtain ⟨k,hk,rfl⟩:=gz d;rcases Zg k i with q | q | q;{grind};{simp_all};have:=hs.lt q hk;grind};simp only[bD] at h;simp only[aU,bY,HX,false_implies,Nz];grind [ϗ]
def Gv{l:Β aH}(hl:l.length<=300)(id:Η):bF (zbz 5000 l id) λr=>(0<=r↔∃j∈l,j.Id=id)/\(0<=r->At l id r)/\(r<0->r=-1):=by simp only[zbz];refine xq l (λ_ j=>j.Id≠id) (λi f h _ a=>?_) (λf h=>?_) (by omega);{simp only[cK h,Υ,ca h,az,bR (show i<1000000 by omega),bp,aU,jN];exact ⟨λe=>⟨⟨λ_=>⟨_,bB h,e⟩,λ_=>by omega⟩,λ_=>⟨by omega,by omega,by simp_all⟩,λh=>by omega⟩,λe=>a e⟩};simp only[dY,bY,cq,aU];refine ⟨⟨λh=>by omega,λ⟨j,d,e⟩=>φ e (DC (A:=λj=>j.Id≠id) h j d)⟩,λh=>by omega,λ_=>trivial⟩
structure Fu (l:Β dD) (n:Η) (i:Ε) (x:dD):Prop where
 up:Ny (l.map (·.Node)) i<x.Node
 lt:x.Node<n
 lo:1<=x.aQ
 hi:x.aQ<=64
def bg(l:Β dD)(n:Η):Prop:=∀i (h:i<l.length),Fu l n i l[i]
def bg.node{l:Β dD}{n:Η}(h:bg l n):ny (l.map (·.Node)) n:=λi hi=>by rw[qF] at hi;rw[Jm];exact ⟨(h i hi).up,(h i hi).lt⟩
theorem bg.mem{l:Β dD}{n:Η}(h:bg l n):∀x∈l,0<=x.Node/\x.Node<n/\1<=x.aQ/\x.aQ<=64:=λx j=>by have s:=h.node.mem x.Node (ft.2 ⟨x,j,rfl⟩);obtain ⟨i,hi,rfl⟩:=gz j;have u:=h i hi;exact ⟨s.1,s.2,u.lo,u.hi⟩
theorem tp{l:Β dD}{i:Ε}(h:i<l.length):Ny (l.map (·.Node)) (i+1)=l[i].Node:=by grind [qO]
def pj(l:Β dD)(n:Η)(hl:l.length<=300):g_ (zft 5000 l n) (bg l n):=by simp only[zft];refine fE l.length (λi x=>x=(Ny (l.map (·.Node)) i,(i:Η))/\∀j (e:j<l.length),j<i->Fu l n j l[j]) (λi x f hi a m=>?_) (λx f a=>?_) ⟨rfl,λj e h=>by omega⟩ (by omega);{obtain ⟨rfl,g⟩:=a;simp only[cK hi,Υ,ca hi,az,bR (show i<1000000 by omega),bp,aU,gy,bD];refine ⟨λh=>?_,λh=>m _ ⟨by rw[tp hi],λj e d=>?_⟩⟩;{simp only[bY,HX];intro p;have q:=p i hi;have r:=q.up;have s:=q.lt;have t:=q.lo;have u:=q.hi;omega};rcases yBw (yC9.1 d) with k | k;{simp_all};subst k;exact ⟨by omega,by omega,by omega,by omega⟩};obtain ⟨rfl,g⟩:=a;simp only[dY,bY,cq,aU,Rg];exact λi hi=>g i hi hi
def KF(l:Β dD)(n:Η)(hl:l.length<=300):g_ (zbG 5000 l n) (bg l n):=by simp only[zbG,eO];refine xq l (λi a=>Fu l n i a) (λi f h v e=>?_) (λf h=>?_) (by omega);{have g:Ι ((i:Η) > 0)=Ι (0<i):=by{simp};simp only[cK h,Υ,ca h,az,bR (show i<1000000 by omega),bp,aU,bD,g,bY,cq];have bad:¬(Fu l n i l[i])->(False↔bg l n):=λj=>by{simp only[HX];exact λd=>j (d i h)};refine ⟨λp=>?_,λp=>⟨λq=>bad λk=>by have:=k.lt;omega,λq=>⟨λr=>bad λk=>by have:=k.lo;omega,λr=>⟨λs=>bad λk=>by have:=k.hi;omega,λs=>⟨λt=>?_,λt=>?_⟩⟩⟩⟩⟩;{simp only[HX];intro d;have:=(d.mem _ (bB h)).1;omega};{obtain ⟨m,rfl⟩:∃m,i=m+1:=⟨i-1,by omega⟩;rw[wp1 (show m+1<1000000 by omega),ca (show m<l.length by omega)];simp only[az,bp,bD,aU,bY];exact ⟨λu=>bad λk=>by have:=k.up;grind [tp],λu=>e ⟨by grind [tp],by omega,by omega,by omega⟩⟩};have:i=0:=by{omega};subst this;exact e ⟨by grind [Ny],by omega,by omega,by omega⟩};simp only[dY,bY,cq,aU,Rg];exact h
def lr(l:Β dD):Η:=(l.map (·.aQ)).sum
theorem tot_bd{l:Β dD}(h:∀x∈l,1<=x.aQ/\x.aQ<=64):0<=lr l/\lr l<=64 * l.length:=by induction l with|nil=>simp[lr]|cons x l ih=>have:=ih λy a=>h y (oJ _ a);grind [lr]
theorem QG{l:Β dD}{i:Ε}(h:i<l.length):lr (l.take (i+1))=lr (l.take i)+l[i].aQ:=by grind [Β.take_succ_eq_append_getElem,lr]
def Pg{l:Β dD}{n:Η}(hl:l.length<=300)(h:bg l n):pL 5000 l=Α (lr l):=by simp only[pL];refine bF.eq (fE l.length (λi x=>x=(lr (l.take i),(i:Η))) (λi x f hi a e=>?_) (λx f a=>?_) (by simp[lr]) (by omega));{subst a;have q:=h.mem _ (bB hi);have b:=tot_bd (l:=l.take i) λx a=>(h.mem x (Mn a)).2.2;have g:((l.take i).length:Η)<=300:=by{rw[Ar];omega};have d:Ia 5000 l[i].aQ 0 64=Α l[i].aQ:=by{simp only[Ia];grind};simp only[cK hi,Υ,ca hi,az,d,bR (show i<1000000 by omega)];grind [wr,QG]};subst a;simp only[dY,bY,cq,aU,xh]
def WD{l:Β dD}{n:Η}(hl:l.length<=300)(h:bg l n):zd1 5000 l=Α (lr l):=by simp only[zd1,eO];refine bF.eq (fE l.length (λi x=>x=(lr (l.take i),(i:Η))) (λi x f hi a d=>?_) (λx f a=>?_) (by simp[lr]) (by omega));{subst a;have q:=h.mem _ (bB hi);have b:=tot_bd (l:=l.take i) λx a=>(h.mem x (Mn a)).2.2;have e:((l.take i).length:Η)<=300:=by{grind};simp only[cK hi,Υ,ca hi,az,bR (show i<1000000 by omega)];rw[Κ (by simp_all),Ν (by grind),wr (by omega) (by omega)];grind [QG]};subst a;simp only[dY,bY,cq,aU,xh]
def NZ(l:Β Η)(hl:l.length<=300)(x:Η):g_ (zcs 5000 l x) (x∈l):=by simp only[g_,zcs,zeB];rw[Zd];refine xq l (λ_ y=>x≠y) (λi f h _ a=>?_) (λf h=>?_) (by omega);{simp only[cK h,Υ,ca h,az,bR (show i<1000000 by omega),bp,jN];refine ⟨λe=>?_,λe=>a e⟩;simp only[aU,bD];simp_all};simp only[dY,bY,cq,aU,bD];exact ⟨λh=>by omega,λd=>φ rfl (DC (A:=λy=>x≠y) h x d)⟩
def ref_has(l:Β Η)(hl:l.length<=300)(x:Η):g_ (zfn 5000 l x) (x∈l):=by simp only[zfn];refine xq l (λ_ y=>y≠x) (λi f h _ d=>?_) (λf h=>?_) (by omega);{simp only[cK h,Υ,ca h,az,bR (show i<1000000 by omega),bp,jN,aU,Rg];grind};simp only[dY,bY,cq,aU,HX];exact λa=>φ rfl (DC (A:=λy=>y≠x) h x a)
structure iy (s:bj) (j:aH) (l:Β dD):Prop where
 shares:bg l s.aj.length
 Xx:lr l=j.aQ
 q:0<=j.Queue/\j.Queue<s.am.length
 part:∀x∈l,x.Node∈(s.aJ[((s.am[j.Queue.toNat]?).getD default).Part.toNat]?).getD []
def QQ{s:bj}(hs:mW s)(k:bA s)(j:aH)(l:Β dD)(hl:l.length<=300):g_ (gY 5000 s j l) (iy s j l):=by have no:∀{p:Prop},¬p->bF (Α Θ) (λb=>b=Γ↔p):=λh=>by{rw[aU];simp[h]};simp only[gY,eO];refine (pj l _ hl).bind λr g=>?_;rw[bp];refine ⟨λh=>?_,λh=>?_⟩;{simp only[Υ];exact no λk=>by grind [iy.shares]};simp only[il,pM] at h;have S:=g.1 h;rw[Pg hl S,az,bp];refine ⟨λq=>no λk=>by grind [iy.Xx],λq=>?_⟩;have t:lr l=j.aQ:=by{simp_all};rw[bp];refine ⟨λu=>no λk=>by have:=k.q;grind,λu=>?_⟩;have a:0<=j.Queue/\j.Queue<s.am.length:=by{simp_all};obtain ⟨d,e⟩:=Fb a.1 a.2;have m:=k.gF.ok _ (bB d);obtain ⟨v,w⟩:=Fb m.part.1 m.part.2;have lp:=hs.part _ (bB v);have y:(s.aJ[((s.am[j.Queue.toNat]?).getD default).Part.toNat]?).getD []=s.aJ[s.am[j.Queue.toNat].Part.toNat]:=by{simp_all};rw[e,az,w,az];refine TM l (λx=>x.Node∈s.aJ[s.am[j.Queue.toNat].Part.toNat]) _ (λk x d=>by rw[<-y];exact k.part x d) (λi f n Q z A=>?_) (λf E=>?_) (by omega);{simp only[cK n,Υ,ca n,az,bR (show i<1000000 by omega)];refine (NZ _ (kz lp (by decide)) _).bind λr g=>?_;simp only[bp,aU,il,pM];grind};simp only[dY,bY,cq,aU,Rg];exact ⟨S,t,a,by simp_all⟩
def ref_mine{s:bj}(hs:mW s)(k:bA s)(j:aH)(l:Β dD)(hl:l.length<=300):g_ (zeL 5000 s j l) (iy s j l):=by have no:∀{p:Prop},¬p->bF (Α Θ) (λb=>b=Γ↔p):=λh=>by{rw[aU];simp[h]};simp only[zeL,eO];refine (KF l _ hl).bind λr g=>?_;rw[bp];refine ⟨λh=>?_,λh=>?_⟩;{simp only[Υ];exact no λk=>by grind [iy.shares]};simp only[il,pM] at h;have S:=g.1 h;rw[WD hl S,az,bp];refine ⟨λt=>no λk=>by have:=k.Xx;have:=k.q;grind,λt=>?_⟩;have m:lr l=j.aQ/\0<=j.Queue/\j.Queue<s.am.length:=by{simp_all};have a:=m.2;obtain ⟨d,e⟩:=Fb a.1 a.2;have n:=k.gF.ok _ (bB d);obtain ⟨u,v⟩:=Fb n.part.1 n.part.2;have lp:=hs.part _ (bB u);have w:(s.aJ[((s.am[j.Queue.toNat]?).getD default).Part.toNat]?).getD []=s.aJ[s.am[j.Queue.toNat].Part.toNat]:=by{simp_all};rw[e,az,v,az];refine TM l (λx=>x.Node∈s.aJ[s.am[j.Queue.toNat].Part.toNat]) _ (λk x d=>by rw[<-w];exact k.part x d) (λi f q Q y z=>?_) (λf A=>?_) (by omega);{simp only[cK q,Υ,ca q,az,bR (show i<1000000 by omega)];refine (ref_has _ (kz lp (by decide)) _).bind λr g=>?_;simp only[bp,aU,il,pM];grind};simp only[dY,bY,cq,aU,Rg];exact ⟨S,m.1,a,by simp_all⟩
abbrev K3:=Η×Η×Η
def UN(u v:K3):Prop:=u.1<v.1\/(u.1=v.1/\(u.2.1<v.2.1\/(u.2.1=v.2.1/\u.2.2<v.2.2)))
instance (u v:K3):Decidable (UN u v):=by unfold UN;infer_instance
theorem cmp1{N:Ε}(a b:Η):gu N a b=Α (if a<b then -1 else if a > b then 1 else 0):=by simp only[gu,cmp_isNaN_int,az];simp;split;{rfl};split <;> rfl
def cmp3{N:Ε}(s:4<N)(u v:K3):bF (zaG N ([u.1,u.2.1,u.2.2]:Β Η) ([v.1,v.2.1,v.2.2]:Β Η)) λr=>(r<0↔UN u v):=by obtain ⟨N,rfl⟩:∃M,N=M+5:=⟨N-5,by omega⟩;obtain ⟨a,b,c⟩:=u;obtain ⟨d,e,f⟩:=v;unfold zaG;have m:i64.wrap (0+1)=1:=rfl;have w1:i64.wrap (1+1)=2:=rfl;have w2:i64.wrap (2+1)=3:=rfl;have n:∀x y z:Η,aG [x,y,z] 0=Α x:=λ_ _ _=>rfl;have p:∀x y z:Η,aG [x,y,z] 1=Α y:=λ_ _ _=>rfl;have q:∀x y z:Η,aG [x,y,z] 2=Α z:=λ_ _ _=>rfl;simp only[bE,Aq,Tf,cmp1,az,m,w1,w2,n,p,q,UN];simp;by_cases g:a<d;{rw[Ν g];simp[aU];omega};rw[Κ g];by_cases h:d<a;{rw[Ν h];simp[aU];omega};rw[Κ h];by_cases i:b<e;{rw[Ν i];simp[aU];omega};rw[Κ i];by_cases j:e<b;{rw[Ν j];simp[aU];omega};rw[Κ j];by_cases k:c<f;{rw[Ν k];simp[aU];omega};rw[Κ k];by_cases l:f<c;{rw[Ν l];simp[aU];omega};rw[Κ l];simp[aU];omega
def VE(p:Β K3)(x:Η):K3:=p.getD x.toNat (0,0,0)
def Vh(p:Β K3)(x:Η):Prop:=0<=x/\x<p.length
def at_kof{p:Β K3}{x:Η}(h:Vh p x):aG p x=Α (VE p x):=by obtain ⟨a,e⟩:=Fb h.1 h.2;rw[e,VE,yBb,eW a];rfl
def Fo{N:Ε}(d:4<N){p:Β K3}{x y:Η}(e:Vh p x)(f:Vh p y) : bF ((aG p x).bind λa=>(aG p y).bind λb=>(zaG N ([a.1,a.2.1,a.2.2]:Β Η) ([b.1,b.2.1,b.2.2]:Β Η)).bind λr=>Α r) λr=>(r<0↔UN (VE p x) (VE p y)):=by rw[at_kof e,at_kof f,az,az];exact (cmp3 d _ _).bind λr g=>aU.2 g
def eR{α:Type}{L R:Β α}{y:α}{i:Η}(h:i=L.length):aG (L++y::R) i=Α y:=by subst h;rw[ca (by simp)];simp
def km{α:Type}{L R:Β α}{y z:α}{i:Η}(h:i=L.length):(L++y::R).set i.toNat z=L++z::R:=by subst h;simp
def Dh{x y:Η}(h:x=y)(a:-9000000<=y)(d:y<9000000):i64.wrap x=y:=by rw[wr (by omega) (by omega)];exact h
theorem up_ok{N:Ε}{L σ R:Β Η}{y:Η}{k E:Η}(hk:k=L.length)(r:E=L.length+σ.length)(G:σ.length<N)(hs:(L++y::σ++R).length<=1000) : bE (λi (e:Η×Β Η)=>if (Ι (e.1<E))=Γ then (aG e.2 (i64.wrap (e.1+1))).bind λg=>(aG e.2 e.1).bind λj=>(aG e.2 e.1).bind λs=>(aG (e.2.set e.1.toNat g) (i64.wrap (e.1+1))).bind λt=>i ((i64.wrap (e.1+1)),((e.2.set e.1.toNat g).set (i64.wrap (e.1+1)).toNat j)) else Α e.2) N (k,L++y::σ++R)=Α (L++σ++y::R):=by apply bF.eq;simp only[vZ,Aq] at hs;refine lpM (I:=λx=>∃d h,x=((d.length:Η),d++y::h++R)/\d++h=L++σ/\E=d.length+h.length) (m:=λx=>(E-x.1).toNat) (λx f u z=>?_) ⟨L,σ,by rw[hk],rfl,r⟩ (by omega);obtain ⟨d,h,rfl,l,n⟩:=u;have p:=HW τ l;simp only[vZ] at p;cases h with|nil=>simp only[Tf] at n;rw[Κ (by simp;omega),aU,<-l];simp|cons v a=>simp only[Aq] at n p;have w:i64.wrap ((d.length:Η)+1)=((d++[y]).length:Ε):=Dh (by simp) (by simp;omega) (by simp;omega);have A:d++y::v::a++R=(d++[y])++v::(a++R):=by{simp};have q:d++y::v::a++R=d++y::(v::a++R):=by{simp};have F:d++v::(v::a++R)=(d++[v])++v::(a++R):=by{simp};simp only;rw[Ν (by simp;omega),w,show aG (d++y::v::a++R) ((d++[y]).length:Ε)=Α v from by rw[A];exact eR rfl,tx,show aG (d++y::v::a++R) (d.length:Η)=Α y from by rw[q];exact eR rfl,ϓ,ϓ,q,km rfl,F,eR (by simp),ϓ,km (by simp)];refine z _ ⟨d++[v],a,by simp,by rw[<-l];simp,by simp;omega⟩ (by simp;omega)
def dn_ok{N:Ε}{L σ R:Β Η}{y:Η}{k E:Η}(hk:k=L.length+σ.length)(z:E=L.length)(A:σ.length<N)(hs:(L++σ++y::R).length<=1000) : bE (λj (a:Η×Β Η)=>if (Ι (a.1 > E))=Γ then (aG a.2 (i64.wrap (a.1-1))).bind λg=>(aG a.2 a.1).bind λl=>(aG a.2 a.1).bind λp=>(aG (a.2.set a.1.toNat g) (i64.wrap (a.1-1))).bind λq=>j ((i64.wrap (a.1-1)),((a.2.set a.1.toNat g).set (i64.wrap (a.1-1)).toNat l)) else Α a.2) N (k,L++σ++y::R)=Α (L++y::σ++R):=by apply bF.eq;simp only[vZ,Aq] at hs;refine lpM (I:=λx=>∃h e,x=(((L++h).length:Η),L++h++y::e)/\h++e=σ++R) (m:=λx=>(x.1-E).toNat) (λx f r s=>?_) ⟨σ,R,by rw[hk];simp,rfl⟩ (by simp;omega);obtain ⟨h,e,rfl,i⟩:=r;have n:=HW τ i;simp only[vZ] at n;rcases B8 h with rfl | ⟨d,v,rfl⟩;{rw[Κ (by simp;omega),aU];simp at i;rw[i];simp};simp only[yCq,vZ,Aq,Tf] at n i ⊢;have w:i64.wrap (((L.length+(d.length+(0+1)):Ε):Η)-1)=((L++d).length:Ε):=Dh (by simp;omega) (by simp;omega) (by simp;omega);have t:L++(d++[v])++y::e=(L++d)++v::(y::e):=by{simp};have F:L++(d++[v])++y::e=(L++(d++[v]))++y::e:=rfl;have u:(L++(d++[v]))++v::e=(L++d)++v::(v::e):=by{simp};rw[Ν (by simp;omega),w,show aG (L++(d++[v])++y::e) ((L++d).length:Ε)=Α v from by rw[t];exact eR rfl,tx,eR (by simp),ϓ,ϓ,km (by simp),u,eR (by simp),ϓ,km (by simp)];refine s _ ⟨d,v::e,by simp,by rw[<-i];simp⟩ (by simp;omega)
theorem Zr{N:Ε}{L U M σ R:Β Η}{a b n:Η}(ha:a=L.length)(hb:b=L.length+U.length+M.length)(hn:n=U.length)(w:σ.length=U.length)(hN:U.length<N)(hs:(L++U++M++σ++R).length<=1000) : bE (λp (d:Η×Β Η)=>if (Ι (d.1<n))=Γ then (aG d.2 (i64.wrap (b+d.1))).bind λl=>(aG d.2 (i64.wrap (a+d.1))).bind λq=>(aG d.2 (i64.wrap (a+d.1))).bind λy=>(aG (d.2.set (i64.wrap (a+d.1)).toNat l) (i64.wrap (b+d.1))).bind λz=>p ((i64.wrap (d.1+1)),((d.2.set (i64.wrap (a+d.1)).toNat l).set (i64.wrap (b+d.1)).toNat q)) else Α d.2) N (0,L++U++M++σ++R)=Α (L++σ++M++U++R):=by apply bF.eq;simp only[vZ] at hs;refine lpM (I:=λx=>∃h j i k,x=((U.length:Η)-j.length,h++j++i++k++R)/\h++k++i++j++R=L++σ++M++U++R/\k.length=j.length/\j.length<=U.length/\(h.length:Η)=a+U.length-j.length/\(h.length:Η)+j.length+i.length=b+U.length-j.length) (m:=λx=>(n-x.1).toNat) (λx f A E=>?_) ⟨L,U,M,σ,by simp,rfl,w,by omega,by omega,by omega⟩ (by omega);obtain ⟨h,j,i,k,rfl,r,s,F,G,K⟩:=A;cases j with|nil=>{cases k with|nil=>rw[Κ (by simp;omega),aU,<-r]|cons=>simp at s}|cons u e=>cases k with|nil=>simp at s|cons v g=>simp only[Aq] at s F G K;have O:=HW τ r;simp only[vZ,Aq] at O;have S:i64.wrap (a+((U.length:Η)-((u::e).length:Ε)))=(h.length:Ε):=Dh (by simp;omega) (by omega) (by omega);have T:i64.wrap (b+((U.length:Η)-((u::e).length:Ε)))=((h++u::e++i).length:Ε):=Dh (by simp;omega) (by simp;omega) (by simp;omega);have W:i64.wrap (((U.length:Η)-((u::e).length:Ε))+1)=(U.length:Η)-(e.length:Ε):=Dh (by simp;omega) (by omega) (by omega);have Y:h++u::e++i++v::g++R=(h++u::e++i)++v::(g++R):=by{simp};have t:h++u::e++i++v::g++R=h++u::(e++i++v::g++R):=by{simp};have Z:h++v::(e++i++v::g++R)=(h++v::e++i)++v::(g++R):=by{simp};simp only;rw[Ν (by simp;omega),S,T,W,show aG (h++u::e++i++v::g++R) ((h++u::e++i).length:Ε)=Α v from by rw[Y];exact eR rfl,tx,show aG (h++u::e++i++v::g++R) (h.length:Ε)=Α u from by rw[t];exact eR rfl,ϓ,ϓ,t,km rfl,Z,eR (by simp),ϓ,km (by simp)];refine E _ ⟨h++[v],e,i++[u],g,by simp,by rw[<-r];simp,by omega,by omega,by simp;omega,by simp;omega⟩ (by simp;omega)
def bs_ok{R:Type}{b:(Η×Η->Δ R)->Η×Η->Δ R}{Q:R->Prop}{lo hi N:Ε}(G:Ε->Prop)(h:lo<=hi)(q:hi<N) (hs:∀f (s r:Ε),lo<=s->s<r->r<=hi->(G ((s+r) / 2)->bF (f (((((s+r) / 2:Ε):Η)+1),(r:Η))) Q)->(¬G ((s+r) / 2)->bF (f ((s:Η),(((s+r) / 2:Ε):Η))) Q)->bF (b f ((s:Η),(r:Η))) Q) (k:∀f (s:Ε),lo<=s->s<=hi->(s=lo\/G (s-1))->(s=hi\/¬G s)->bF (b f ((s:Η),(s:Η))) Q):bF (bE b N ((lo:Η),(hi:Η))) Q:=by refine lpM (I:=λx=>∃s r:Ε,x=((s:Η),(r:Η))/\lo<=s/\s<=r/\r<=hi/\(s=lo\/G (s-1))/\(r=hi\/¬G r)) (m:=λx=>(x.2-x.1).toNat) (λx f l g=>?_) ⟨lo,hi,rfl,by omega,h,by omega,.inl rfl,.inl rfl⟩ (by simp;omega);obtain ⟨s,r,rfl,a,n,d,i,j⟩:=l;rcases yBw n with p | rfl;{refine hs f s r a p d (λe=>g _ ⟨(s+r) / 2+1,r,by simp,by omega,by omega,d,.inr (by simpa using e),j⟩ (by simp;omega)) (λe=>g _ ⟨s,(s+r) / 2,rfl,a,by omega,by omega,i,.inr e⟩ (by simp;omega))};exact k f s a d i j
def qv{R:Type}{a b:Ε}{o:Δ R}(h:a=b):DE a b o=o:=by subst h;simp[DE]
def rot_ok{N:Ε}{L U σ R:Β Η}{m i j:Η}(hm:m=L.length+U.length)(hi:i=U.length)(Z:j=σ.length)(hU:0<U.length)(hV:0<σ.length)(hN:U.length+σ.length<N)(hs:(L++U++σ++R).length≤1000) : bE (fun s (d:Η×Η×Β Η)=>if (d.1 != d.2.1)=Γ then if (Ι (d.1 > d.2.1))=Γ then (bE (fun F (k:Η×Β Η)=>if (Ι (k.1<d.2.1))=Γ then (aG k.2 (i64.wrap (m+k.1))).bind fun t=>(aG k.2 (i64.wrap ((i64.wrap (m-d.1))+k.1))).bind fun G=>(aG k.2 (i64.wrap ((i64.wrap (m-d.1))+k.1))).bind fun aa=>(aG (k.2.set (i64.wrap ((i64.wrap (m-d.1))+k.1)).toNat t) (i64.wrap (m+k.1))).bind fun ab=>F ((i64.wrap (k.1+1)),((k.2.set (i64.wrap ((i64.wrap (m-d.1))+k.1)).toNat t).set (i64.wrap (m+k.1)).toNat G)) else Α k.2) N (0,d.2.2)).bind fun u=>DE d.2.2.length u.length <| s ((i64.wrap (d.1-d.2.1)),d.2.1,u) else (bE (fun K (l:Η×Β Η)=>if (Ι (l.1<d.1))=Γ then (aG l.2 (i64.wrap ((i64.wrap ((i64.wrap (m+d.2.1))-d.1))+l.1))).bind fun v=>(aG l.2 (i64.wrap ((i64.wrap (m-d.1))+l.1))).bind fun O=>(aG l.2 (i64.wrap ((i64.wrap (m-d.1))+l.1))).bind fun ad=>(aG (l.2.set (i64.wrap ((i64.wrap (m-d.1))+l.1)).toNat v) (i64.wrap ((i64.wrap ((i64.wrap (m+d.2.1))-d.1))+l.1))).bind fun af=>K ((i64.wrap (l.1+1)),((l.2.set (i64.wrap ((i64.wrap (m-d.1))+l.1)).toNat v).set (i64.wrap ((i64.wrap ((i64.wrap (m+d.2.1))-d.1))+l.1)).toNat O)) else Α l.2) N (0,d.2.2)).bind fun w=>DE d.2.2.length w.length <| s (d.1,(i64.wrap (d.2.1-d.1)),w) else (bE (fun S (p:Η×Β Η)=>if (Ι (p.1<d.1))=Γ then (aG p.2 (i64.wrap (m+p.1))).bind fun y=>(aG p.2 (i64.wrap ((i64.wrap (m-d.1))+p.1))).bind fun T=>(aG p.2 (i64.wrap ((i64.wrap (m-d.1))+p.1))).bind fun ak=>(aG (p.2.set (i64.wrap ((i64.wrap (m-d.1))+p.1)).toNat y) (i64.wrap (m+p.1))).bind fun an=>S ((i64.wrap (p.1+1)),((p.2.set (i64.wrap ((i64.wrap (m-d.1))+p.1)).toNat y).set (i64.wrap (m+p.1)).toNat T)) else Α p.2) N (0,d.2.2)).bind fun W=>Α W) N (i,j,L++U++σ++R)=Α (L++σ++U++R):=by apply bF.eq;simp only [vZ] at hs;refine lpM (I:=fun x=>∃q h g r,x=((h.length:Η),(g.length:Η),q++h++g++r)/\q++g++h++r=L++σ++U++R/\m=q.length+h.length/\0<h.length/\0<g.length/\h.length≤U.length/\g.length≤σ.length) (m:=fun x=>(x.1+x.2.1).toNat) (fun x f hI Y=>?_) ⟨L,U,σ,R,by rw [hi,Z],rfl,hm,hU,hV,by omega,by omega⟩ (by simp; omega);obtain ⟨q,h,g,r,rfl,E,h2,h3,h4,h5,h6⟩:=hI;have hl:=HW τ E;simp only [vZ] at hl;have wa:i64.wrap (m-(h.length:Η))=(q.length:Η):=Dh (by omega) (by omega) (by omega);simp only [wa];by_cases e:h.length=g.length;{rw [Κ (by simp [e])];have:=Zr (N:=N) (L:=q) (U:=h) (M:=[]) (σ:=g) (R:=r) (a:=q.length) (b:=m) (n:=h.length) rfl (by simp; omega) rfl e.symm (by omega) (by simp; omega);simp only [Bh] at this;rw [this,az,aU,E]};rw [Ν (by simp; omega)];by_cases e2:g.length<h.length;{rw [Ν (by simp; omega)];have z:h=h.take g.length++h.drop g.length:=(ND _ _).symm;have:=Zr (N:=N) (L:=q) (U:=h.take g.length) (M:=h.drop g.length) (σ:=g) (R:=r) (a:=q.length) (b:=m) (n:=g.length) rfl (by simp; omega) (by simp; omega) (by simp; omega) (by simp; omega) (by simp; omega);rw [yP q (h.take _),←z] at this;rw [this,az,qv (by simp; omega),show i64.wrap ((h.length:Η)-g.length)=((h.drop g.length).length:Η) from Dh (by simp; omega) (by omega) (by simp; omega)];refine Y _ ⟨q++g,h.drop g.length,h.take g.length,r,by simp; omega,?_,by simp; omega,by simp; omega,by simp; omega,by simp; omega,by simp; omega⟩ (by simp; omega);rw [←E];(conv=>rhs; rw [z]);simp};rw [Κ (by simp; omega)];have A:g=g.take (g.length-h.length)++g.drop (g.length-h.length):=(ND _ _).symm;have wb:i64.wrap (m+(g.length:Η))=m+g.length:=Dh rfl (by omega) (by omega);have wc:i64.wrap (m+(g.length:Η)-h.length)=m+g.length-h.length:=Dh rfl (by omega) (by omega);have:=Zr (N:=N) (L:=q) (U:=h) (M:=g.take (g.length-h.length)) (σ:=g.drop (g.length-h.length)) (R:=r) (a:=q.length) (b:=m+g.length-h.length) (n:=h.length) rfl (by simp; omega) rfl (by simp; omega) (by omega) (by simp; omega);rw [yP (q++h) (g.take _),←A] at this;simp only [wb,wc];rw [this,az,qv (by simp; omega),show i64.wrap ((g.length:Η)-h.length)=((g.take (g.length-h.length)).length:Η) from Dh (by simp; omega) (by omega) (by simp; omega)];refine Y _ ⟨q,g.drop (g.length-h.length),g.take (g.length-h.length),h++r,by simp; omega,?_,by simp; omega,by simp; omega,by simp; omega,by simp; omega,by simp; omega⟩ (by simp; omega);rw [←E];(conv=>rhs; rw [A]);simp
def DI(p:Β K3)(u v:Η):Prop:=¬UN (VE p v) (VE p u)
def Ai(p:Β K3)(l:Β Η):Prop:=l.Pairwise (DI p)
def DI.trans{p:Β K3}{a b c:Η}(h:DI p a b)(i:DI p b c):DI p a c:=by unfold DI UN at *;omega
theorem DI.refl{p:Β K3}{a:Η}:DI p a a:=by unfold DI UN;omega
theorem UN.le{p:Β K3}{a b:Η}(h:UN (VE p a) (VE p b)):DI p a b:=by unfold DI UN at *;omega
def Ux{p:Β K3}{l:Β Η}(h:Ai p l){i j:Ε}(a:i<=j)(d:j<l.length):DI p (l.getD i 0) (l.getD j 0):=by rcases yBw a with e | rfl;{have:=yBd.1 h i j (by omega) d e;simpa[yBb,d,show i<l.length by omega] using this};exact .refl
def FC{p:Β K3}{l:Β Η}(h:Ai p l){t:Ε}(f:t<=l.length){y:Η}(a:t=0\/DI p (l.getD (t-1) 0) y):∀u∈l.take t,DI p u y:=λu d=>by obtain ⟨i,hi,rfl⟩:=gz d;simp only[Ar] at hi;rcases a with rfl | a;{omega};have:=Ux h (i:=i) (j:=t-1) (by omega) (by omega);rw[Wy];have e:l.getD i 0=l[i]'(by omega):=by{simp[yBb,show i<l.length by omega]};rw[<-e];exact this.trans a
def Gr{p:Β K3}{l:Β Η}(h:Ai p l){t:Ε}{y:Η}(a:l.length<=t\/DI p y (l.getD t 0)):∀u∈l.drop t,DI p y u:=λu d=>by obtain ⟨i,hi,rfl⟩:=gz d;simp only[yBN] at hi;rcases a with a | a;{omega};have:=Ux h (i:=t) (j:=t+i) (by omega) (by omega);rw[yBU];have e:l.getD (t+i) 0=l[t+i]'(by omega):=by{simp[yBb,show t+i<l.length by omega]};rw[<-e];exact a.trans this
def Ai.Po{p:Β K3}{l:Β Η}(h:Ai p l)(t:Ε):Ai p (l.take t):=B9 (Β.take_sublist _ _) h
def Ai.Of{p:Β K3}{l:Β Η}(h:Ai p l)(t:Ε):Ai p (l.drop t):=B9 (Β.drop_sublist _ _) h
def VI{p:Β K3}{l:Β Η}(h:Ai p l){t:Ε}(f:t<=l.length){y:Η}(g:t=0\/DI p (l.getD (t-1) 0) y)(i:l.length<=t\/DI p y (l.getD t 0)):Ai p (l.take t++y::l.drop t):=by have a:=FC h f g;have b:=Gr h i;refine Rv.2 ⟨h.Po t,yBy.2 ⟨b,h.Of t⟩,λu e v d=>?_⟩;rcases fO.1 d with rfl | d;{exact a u e};exact (a u e).trans (b v d)
def kI{L B R:Β Η}{t k:Ε}(hk:k=L.length+t)(a:t<B.length):(L++B++R).getD k 0=B.getD t 0:=by subst hk;simp only[yBb];rw[yP,QB (by omega),H_ (by omega),yBR]
def Mw{l:Β Η}{k:Ε}{i:Η}(h:i=(k:Η))(hk:k<l.length):aG l i=Α (l.getD k 0):=by subst h;rw[ca hk];simp[yBb,hk]
def EY{p:Β K3}{l:Β Η}(h:∀x∈l,Vh p x){k:Ε}(hk:k<l.length):Vh p (l.getD k 0):=by have:l.getD k 0=l[k]:=by{simp[yBb,hk]};rw[this];exact h _ (bB hk)
def Hf{X R:Type}{K:X->Δ R}{J:(X->Δ R)->Δ R}{Q:R->Prop}(wK:X->Prop)(a:∀k,(∀x,wK x->bF (k x) Q)->bF (J k) Q)(d:∀x,wK x->bF (K x) Q):bF (jn K J) Q:=a K d
set_option maxHeartbeats 4000000 in
theorem PV{p:Β K3}:∀(N:Ε)(P A B S:Β Η)(a m b:Η),A≠[]->B≠[]->(P++A++B++S).length<=1000->(∀x∈P++A++B++S,Vh p x)->A.length+B.length+1100<=N ->
  a=P.length->m=P.length+A.length->b=P.length+A.length+B.length ->
  bF (zbl N (P++A++B++S) a m b p) λr=>∃C,r=P++C++S/\C.Perm (A++B)/\(Ai p A->Ai p B->Ai p C):=by
 intro N;induction N with
 |zero=>intro P A B S a m b _ _ _ _ h;omega
 |succ N ih=>
  intro P A B S a m b hA hB hl F hN ha hm hb;have a0:0<A.length:=Zi.2 hA;have a1:0<B.length:=Zi.2 hB;have ak:=hl;simp only[vZ] at ak;show bF (if (i64.wrap (m-a) == 1)=Γ then _ else _) _;rw[bp];have w1:i64.wrap (m-a)=A.length:=Dh (by omega) (by omega) (by omega);have w2:i64.wrap (b-m)=B.length:=Dh (by omega) (by omega) (by omega);rw[w1];refine ⟨λO=>?_,λO=>?_⟩
  ·
   obtain ⟨y,rfl⟩:∃y,A=[y]:=by
    match A,O with
    |[y],_=>exact ⟨y,rfl⟩
    |[],O=>simp at O
    |_::_::_,O=>simp at O;omega
   have hy:aG (P++[y]++B++S) a=Α y:=by rw[show P++[y]++B++S=P++y::(B++S) by simp];exact eR ha
   have an:Vh p y:=F y (by simp);simp only[Aq,Tf] at hm hb ak hN;obtain ⟨q,rfl⟩:∃q:Ε,m=q:=⟨P.length+1,by omega⟩;obtain ⟨K,rfl⟩:∃K:Ε,b=K:=⟨P.length+1+B.length,by omega⟩;refine bs_ok (λh=>UN (VE p ((P++[y]++B++S).getD h 0)) (VE p y)) (by omega) (by omega) (λf s r T U n hg hn=>?_) (λf s T U n w=>?_)
   ·have G:(s+r) / 2<(P++[y]++B++S).length:=by simp;omega
    simp only;rw[Ν (by simp;omega),mid (by omega),Mw rfl G,az,hy,az,Dh (x:=(((s+r) / 2:Ε):Η)+1) rfl (by omega) (by omega)];refine (Fo (by omega) (EY F G) an).bind λr M=>?_;rw[bp];exact ⟨λh=>hg (M.1 (by simpa using h)),λh=>hn λg=>h (by simpa using M.2 g)⟩
   ·simp only;rw[Κ (by simp)];have ht:s-q<=B.length:=by omega
    have aw:B=B.take (s-q)++B.drop (s-q):=(ND _ _).symm;have e:P++[y]++B++S=P++y::B.take (s-q)++(B.drop (s-q)++S):=by simp only[yP,Ez,vH];rw[<-yP (Β.take _ _) (Β.drop _ _) S,ND]
    rw[Dh (x:=(s:Η)-1) (y:=(P.length:Η)+(B.take (s-q)).length) (by simp;omega) (by omega) (by simp;omega)]
    conv in (P++[y]++B++S)=>rw[e]
    rw[up_ok ha rfl (by simp;omega) (by simp;omega),aU];refine ⟨B.take (s-q)++y::B.drop (s-q),by simp,?_,λ_ hb=>VI hb ht ?_ ?_⟩
    ·conv=>rhs;rw[aw]
     exact Β.perm_middle
    ·rcases n with n | n
     ·left;omega
     ·by_cases W:s-q=0
      ·exact .inl W
      ·right;rw[kI (L:=P++[y]) (B:=B) (R:=S) (t:=s-q-1) (by simp;omega) (by omega)] at n;exact n.le
    ·rcases w with w | w
     ·left;omega
     ·by_cases W:B.length<=s-q
      ·exact .inl W
      ·right;rw[kI (L:=P++[y]) (B:=B) (R:=S) (t:=s-q) (by simp;omega) (by omega)] at w;exact w
  ·rw[bp,w2];refine ⟨λh2=>?_,λh2=>?_⟩
   ·
    obtain ⟨y,rfl⟩:∃y,B=[y]:=by
     match B,h2 with
     |[y],_=>exact ⟨y,rfl⟩
     |[],O=>simp at O
     |_::_::_,O=>simp at O;omega
    have hy:aG (P++A++[y]++S) m=Α y:=by rw[show P++A++[y]++S=(P++A)++y::S by simp];exact eR (by simp;omega)
    have an:Vh p y:=F y (by simp);simp only[Aq,Tf] at hm hb ak hN;obtain ⟨E,rfl⟩:∃E:Ε,a=E:=⟨P.length,by omega⟩;obtain ⟨q,rfl⟩:∃q:Ε,m=q:=⟨P.length+A.length,by omega⟩;refine bs_ok (λh=>¬UN (VE p y) (VE p ((P++A++[y]++S).getD h 0))) (by omega) (by omega) (λf s r T U n hg hn=>?_) (λf s T U n w=>?_)
    ·have G:(s+r) / 2<(P++A++[y]++S).length:=by simp;omega
     simp only;rw[Ν (by simp;omega),mid (by omega),hy,az,Mw rfl G,az,Dh (x:=(((s+r) / 2:Ε):Η)+1) rfl (by omega) (by omega)];refine (Fo (by omega) an (EY F G)).bind λr M=>?_;rw[bp];refine ⟨λh=>hg λg=>?_,λh=>hn λg=>?_⟩
     ·have:=M.2 g;simp at h;omega
     ·simp at h;exact g (M.1 h)
    ·simp only;rw[Κ (by simp)];have ht:s-E<=A.length:=by omega
     have av:A=A.take (s-E)++A.drop (s-E):=(ND _ _).symm;have e:P++A++[y]++S=(P++A.take (s-E))++A.drop (s-E)++y::S:=by
      conv=>lhs;rw[av]
      simp
     conv in (P++A++[y]++S)=>rw[e]
     rw[dn_ok (by simp;omega) (by simp;omega) (by simp;omega) (by simp;omega),aU];refine ⟨A.take (s-E)++y::A.drop (s-E),by simp,?_,λhb _=>VI hb ht ?_ ?_⟩
     ·conv=>rhs;rw[av]
      simp only[yP];exact Ϻ _ (yCr (l₁:=[y]))
     ·rcases n with n | n
      ·left;omega
      ·by_cases W:s-E=0
       ·exact .inl W
       ·right;rw[show P++A++[y]++S=P++A++([y]++S) by simp,kI (L:=P) (B:=A) (t:=s-E-1) (by omega) (by omega)] at n;exact n
     ·rcases w with w | w
      ·left;omega
      ·by_cases W:A.length<=s-E
       ·exact .inl W
       ·right;rw[show P++A++[y]++S=P++A++([y]++S) by simp,kI (L:=P) (B:=A) (t:=s-E) (by omega) (by omega)] at w;exact (G8.1 w).le
   ·
    have av:2<=A.length:=by
     rcases sE A.length 2 with h | h
     ·exact φ (show ((A.length:Η) == 1)=Γ by simp;omega) O
     ·exact h
    have aw:2<=B.length:=by
     rcases sE B.length 2 with h | h
     ·exact φ (show ((B.length:Η) == 1)=Γ by simp;omega) h2
     ·exact h
    obtain ⟨E,rfl⟩:∃E:Ε,a=E:=⟨P.length,by omega⟩;obtain ⟨q,rfl⟩:∃q:Ε,m=q:=⟨P.length+A.length,by omega⟩;obtain ⟨K,rfl⟩:∃K:Ε,b=K:=⟨P.length+A.length+B.length,by omega⟩;have ab:=mid (i:=E) (j:=K) (by omega);obtain ⟨z,ax⟩:∃z,z=(E+K) / 2:=⟨_,rfl⟩;rw[<-ax] at ab;simp only[ab];have wn:i64.wrap ((z:Η)+(q:Η))=((z+q:Ε):Η):=Dh (by simp) (by omega) (by omega);simp only[wn];have a2:(P++A++B++S).length=P.length+A.length+B.length+S.length:=by simp;omega
    refine Hf (λx=>∃lo hi:Ε,x=((lo:Η),(hi:Η))/\lo<=hi/\hi<=z/\hi<=q/\E<=lo/\z+q<=K+lo/\(lo=E\/z+q=K+lo)/\(hi=q\/hi=z)) (λk hk=>?_) ?_
    ·rw[bp];refine ⟨λh=>hk _ ⟨z+q-K,z,?_,?_⟩,λh=>hk _ ⟨E,q,rfl,?_⟩⟩
     ·rw[Dh (x:=((z+q:Ε):Η)-(K:Η)) (y:=((z+q-K:Ε):Η)) (by simp at h;omega) (by omega) (by omega)]
     ·simp at h;omega
     ·simp at h;omega
    ·rintro _ ⟨lo,hi,rfl,q1,q2,q3,q4,q5,q6,q7⟩;refine bs_ok (λc=>¬UN (VE p ((P++A++B++S).getD (z+q-1-c) 0)) (VE p ((P++A++B++S).getD c 0))) q1 (by omega) (λf s r T U n hg hn=>?_) (λf s T U n w=>?_)
     ·have G:(s+r) / 2<(P++A++B++S).length:=by omega
      have ad:z+q-1-(s+r) / 2<(P++A++B++S).length:=by omega
      have wp:i64.wrap (((z+q:Ε):Η)-1)=((z+q-1:Ε):Η):=Dh (by omega) (by omega) (by omega);simp only;rw[Ν (by simp;omega),mid (by omega),wp,Dh (x:=((z+q-1:Ε):Η)-(((s+r) / 2:Ε):Η)) (y:=((z+q-1-(s+r) / 2:Ε):Η)) (by omega) (by omega) (by omega),Mw rfl ad,az,Mw rfl G,az,Dh (x:=(((s+r) / 2:Ε):Η)+1) rfl (by omega) (by omega)];refine (Fo (by omega) (EY F ad) (EY F G)).bind λr M=>?_;rw[bp];refine ⟨λh=>hg λg=>?_,λh=>hn λg=>?_⟩
      ·have:=M.2 g;simp at h;omega
      ·simp at h;exact g (M.1 h)
     ·simp only;rw[Κ (by simp)];have we:i64.wrap (((z+q:Ε):Η)-(s:Η))=((z+q-s:Ε):Η):=Dh (by omega) (by omega) (by omega);simp only[we];obtain ⟨d,a5⟩:∃d,d=s-E:=⟨_,rfl⟩;obtain ⟨l,a6⟩:∃l,l=z-s:=⟨_,rfl⟩;have la:d<=A.length:=by omega
      have lb:l<=B.length:=by omega
      have eA:A=A.take d++A.drop d:=(ND _ _).symm;have eB:B=B.take l++B.drop l:=(ND _ _).symm;have a7:(A.take d).length=d:=by simp;omega
      have a8:(A.drop d).length=A.length-d:=by simp
      have a9:(B.take l).length=l:=by simp;omega
      have bb:(B.drop l).length=B.length-l:=by simp
      have f1:d=0\/B.length<=l\/DI p (A.getD (d-1) 0) (B.getD l 0):=by
       by_cases W:d=0
       ·exact .inl W
       by_cases Y:B.length<=l
       ·exact .inr (.inl Y)
       rcases n with n | n
       ·omega
       rw[kI (L:=P++A) (B:=B) (R:=S) (t:=l) (by simp;omega) (by omega),show P++A++B++S=P++A++(B++S) by simp,kI (L:=P) (B:=A) (t:=d-1) (by omega) (by omega)] at n;exact .inr (.inr n)
      have f2:l=0\/A.length<=d\/DI p (B.getD (l-1) 0) (A.getD d 0):=by
       by_cases W:l=0
       ·exact .inl W
       by_cases Y:A.length<=d
       ·exact .inr (.inl Y)
       rcases w with w | w
       ·omega
       rw[kI (L:=P++A) (B:=B) (R:=S) (t:=l-1) (by simp;omega) (by omega),show P++A++B++S=P++A++(B++S) by simp,kI (L:=P) (B:=A) (t:=d) (by omega) (by omega)] at w;exact .inr (.inr (G8.1 w).le)
      refine Hf (λx=>x=P++A.take d++B.take l++A.drop d++B.drop l++S) (λk hk=>?_) ?_
      ·rw[bp];refine ⟨λh=>?_,λh=>hk _ ?_⟩
       ·simp only[bH,bD] at h;have e:P++A++B++S=(P++A.take d)++A.drop d++B.take l++(B.drop l++S):=by
         simp only[yP];rw[<-yP (B.take l) (B.drop l) S,ND,<-yP (A.take d) (A.drop d),ND]
        conv in (P++A++B++S)=>rw[e]
        rw[rot_ok (by simp;omega) (by rw[Dh rfl (by omega) (by omega)];omega) (by rw[Dh rfl (by omega) (by omega)];omega) (by omega) (by omega) (by omega) (by simp;omega),tx,qv (by rw[e];simp;omega)];exact hk _ (by simp)
       ·simp only[bH,bD,yCc] at h;rcases h with h | h
        ·have:A.drop d=[]:=by rw[<-yBf];omega
         have e2:A.take d=A:=by rw[this] at eA;simpa using eA.symm
         rw[this,e2]
         conv=>lhs;rw[eB]
         simp
        ·have:B.take l=[]:=by rw[<-yBf];omega
         have e2:B.drop l=B:=by rw[this] at eB;simpa using eB.symm
         rw[this,e2]
         conv=>lhs;rw[eA]
         simp
      ·rintro _ rfl;refine Hf (λx=>∃Z,x=P++Z++A.drop d++B.drop l++S/\Z.Perm (A.take d++B.take l)/\(Ai p (A.take d)->Ai p (B.take l)->Ai p Z)) (λk hk=>?_) ?_
       ·rw[bp];refine ⟨λh=>?_,λh=>hk _ ⟨A.take d++B.take l,by simp,.refl _,λY h4=>?_⟩⟩
        ·simp only[bH,bD] at h;have e:P++A.take d++B.take l++A.drop d++B.drop l++S=P++A.take d++B.take l++(A.drop d++B.drop l++S):=by simp
         have r:=ih P (A.take d) (B.take l) (A.drop d++B.drop l++S) E s z (by rw[<-Zi];omega) (by rw[<-Zi];omega) (by rw[<-e];simp;omega) (λx hx=>F x (by
          rw[<-e] at hx;simp only[li] at hx ⊢;rcases hx with ((((h | h) | h) | h) | h) | h
          ·exact .inl (.inl (.inl h))
          ·exact .inl (.inl (.inr (Mn h)))
          ·exact .inl (.inr (Mn h))
          ·exact .inl (.inl (.inr (yBs h)))
          ·exact .inl (.inr (yBs h))
          ·exact .inr h)) (by omega) ha (by omega) (by omega)
         rw[<-e] at r;refine r.bind λr M=>?_;obtain ⟨C,rfl,Y,h4⟩:=M;have h5:=Y.length_eq;simp only[vZ] at h5;rw[qv (by simp;omega)];exact hk _ ⟨C,by simp,Y,h4⟩
        ·simp only[bH,bD,yCc] at h;rcases h with h | h
         ·have:A.take d=[]:=by rw[<-yBf];omega
          rw[this];exact h4
         ·have:B.take l=[]:=by rw[<-yBf];omega
          rw[this,Bh];exact Y
       ·rintro _ ⟨Z,rfl,g1,g2⟩;have lC:=g1.length_eq;simp only[vZ] at lC;have aa:∀C2:Β Η,C2.Perm (A.drop d++B.drop l)->Ai p A->Ai p B->∀u∈Z,∀v∈C2,DI p u v:=λC2 g3 sA sB u hu v F=>by
         have hu:=li.1 (g1.mem_iff.1 hu);have F:=li.1 (g3.mem_iff.1 F);rcases hu with hu | hu <;> rcases F with F | F
         ·have:=Rv.1 (eA▸sA:Ai p (A.take d++A.drop d));exact this.2.2 u hu v F
         ·rcases f1 with f1 | f1 | f1
          ·subst f1;simp at hu
          ·rw[yB4 f1] at F;simp at F
          ·exact Gr sB (.inr (FC sA la (.inr f1) u hu)) v F
         ·rcases f2 with f2 | f2 | f2
          ·rw[f2] at hu;simp at hu
          ·rw[yB4 f2] at F;simp at F
          ·exact Gr sA (.inr (FC sB lb (.inr f2) u hu)) v F
         ·have:=Rv.1 (eB▸sB:Ai p (B.take l++B.drop l));exact this.2.2 u hu v F
        have af:∀C2:Β Η,C2.Perm (A.drop d++B.drop l)->(Z++C2).Perm (A++B):=λC2 g3=>by
         refine (H7 g1 g3).trans ?_
         conv=>rhs;rw[eA,eB]
         simp only[yP];refine Ϻ _ ?_;rw[<-yP,<-yP (A.drop d)];exact Β.Perm.append_right _ yCr
        rw[bp];refine ⟨λh=>?_,λh=>aU.2 ⟨Z++(A.drop d++B.drop l),by simp,af _ (.refl _),λsA sB=>?_⟩⟩
        ·simp only[bH,bD] at h;have e:P++Z++A.drop d++B.drop l++S=(P++Z)++A.drop d++B.drop l++S:=rfl;have r:=ih (P++Z) (A.drop d) (B.drop l) S z ((z+q-s:Ε):Η) K (by rw[<-Zi];omega) (by rw[<-Zi];omega) (by simp;omega) (λx hx=>F x (by
          simp only[li] at hx ⊢;rcases hx with (((h | h) | h) | h) | h
          ·exact .inl (.inl (.inl h))
          ·rcases li.1 (g1.mem_iff.1 h) with h | h
           ·exact .inl (.inl (.inr (Mn h)))
           ·exact .inl (.inr (Mn h))
          ·exact .inl (.inl (.inr (yBs h)))
          ·exact .inl (.inr (yBs h))
          ·exact .inr h)) (by omega) (by simp;omega) (by simp;omega) (by simp;omega)
         refine r.bind λr M=>?_;obtain ⟨C2,rfl,Y,h4⟩:=M;refine aU.2 ⟨Z++C2,by simp,af _ Y,λsA sB=>?_⟩;exact Rv.2 ⟨g2 (sA.Po _) (sB.Po _),h4 (sA.Of _) (sB.Of _),aa _ Y sA sB⟩
        ·refine Rv.2 ⟨g2 (sA.Po _) (sB.Po _),?_,aa _ (.refl _) sA sB⟩;simp only[bH,bD,yCc] at h;rcases h with h | h
         ·have:A.drop d=[]:=by rw[<-yBf];omega
          rw[this];exact sB.Of _
         ·have:B.drop l=[]:=by rw[<-yBf];omega
          rw[this,Bh];exact sA.Of _
end Go.Plain
end
section
namespace Go.Plain
open Go.Abs
def sv{X R:Type}{b:(X->Δ R)->X->Δ R}{Q:R->Prop}{n:Ε}{x:X}(a:0<n)(h:∀f,f=bE b (n-1)->bF (b f x) Q):bF (bE b n x) Q:=by obtain ⟨k,rfl⟩:∃k,n=k+1:=⟨n-1,by omega⟩;exact h _ rfl
def Sf{p:Β K3}{N:Ε}{P A S:Β Η}{a E:Η}(ha:a=P.length)(hE:E=P.length+A.length)(hN:1100<=N)(hl:(P++A++S).length<=1000)(G:∀x∈P++A++S,Vh p x) : bF (bE (λf8 (K : Η × Β Η)=>if (Ι (K.1<E))=Γ then bE (λab (e:Η×Β Η)=>jn (λ(ad:Λ)=>if ad=Γ then (aG e.2 (i64.wrap (e.1-1))).bind λL=>(aG e.2 e.1).bind λaf=>(aG e.2 e.1).bind λa2=>(aG (e.2.set e.1.toNat L) (i64.wrap (e.1-1))).bind λa5=>ab ((i64.wrap (e.1-1)),((e.2.set e.1.toNat L).set (i64.wrap (e.1-1)).toNat af)) else f8 ((i64.wrap (K.1+1)),e.2)) λM=>if (Ι (e.1 > a))=Γ then (aG e.2 e.1).bind λak=>(aG e.2 (i64.wrap (e.1-1))).bind λan=>((aG p ak).bind λq=>(aG p an).bind λs=>(zaG N ([q.1,q.2.1,q.2.2]:Β Η) ([s.1,s.2.1,s.2.2]:Β Η)).bind λav=>Α av).bind λaw=>M (Ι (aw<0)) else M Θ) N (K.1,K.2) else Α K.2) N ((i64.wrap (a+1)),P++A++S)) λr=>∃C,r=P++C++S/\C.Perm A/\Ai p C:=by have ax:=hl;simp only[vZ] at ax;rw[Dh (x:=a+1) (y:=a+1) rfl (by omega) (by omega)];refine lpM (I:=λx=>∃C T,x.2=P++C++T++S/\(C++T).Perm A/\Ai p C/\x.1=a+(if A=[] then 1 else (C.length:Η))/\(A≠[]->0<C.length)) (m:=λx=>(E+1-x.1).toNat) (λx f hI hr=>?_) ?_ (by simp;omega);{obtain ⟨i,row⟩:=x;obtain ⟨C,T,rfl,hp,hs,hi,h0⟩:=hI;simp only at hi hr ⊢;have l:=hp.length_eq;simp only[vZ] at l;by_cases hA:A=[];{subst hA;simp only[Υ,Tf] at hi l hE;rw[Κ (by simp;omega),aU];have hC:C=[]:=by{rw[<-yBf];omega};have hT:T=[]:=by{rw[<-yBf];omega};subst hC hT;exact ⟨[],by simp,.refl _,hs⟩};rw[Κ hA] at hi;have a6:=h0 hA;cases T with|nil=>simp only[Tf] at l;rw[Κ (by simp;omega),aU];exact ⟨C,by simp,by simpa using hp,hs⟩|cons y T=>simp only[Aq] at l;rw[Ν (by simp;omega)];refine lpM (I:=λz=>∃U σ,z=(a+(U.length:Η),P++U++y::(σ++T++S))/\U++σ=C/\∀v∈σ,DI p y v) (m:=λz=>(z.1-a).toNat) (λz g hz a0=>?_) ⟨C,[],by rw[hi];simp,by simp,by simp⟩ (by simp;omega);obtain ⟨U,σ,rfl,j,O⟩:=hz;have t:=HW τ j;simp only[vZ] at t;have F:∀x∈P++U++y::(σ++T++S),Vh p x:=λx W=>G x (by simp only[li,fO] at W ⊢;have n:x∈U\/x∈σ\/x=y\/x∈T->x∈A:=λh=>hp.mem_iff.1 (by rw[<-j];simp only[li,fO];rcases h with h | h | h | h;{exact .inl (.inl h)};{exact .inl (.inr h)};{exact .inr (.inl h)};exact .inr (.inr h));rcases W with (h | h) | h | (h | h) | h;{exact .inl (.inl h)};{exact .inl (.inr (n (.inl h)))};{exact .inl (.inr (n (.inr (.inr (.inl h)))))};{exact .inl (.inr (n (.inr (.inl h))))};{exact .inl (.inr (n (.inr (.inr (.inr h)))))};exact .inr h);have done:(∀u∈U,DI p u y)->bF (f (i64.wrap (i+1),P++U++y::(σ++T++S))) (λr=>∃C,r=P++C++S/\C.Perm A/\Ai p C):=λhu=>by{rw[Dh (x:=i+1) rfl (by omega) (by omega)];refine hr _ ⟨U++y::σ,T,by simp,?_,?_,?_,λ_=>by simp;omega⟩ (by simp;omega);{refine Β.Perm.trans ?_ hp;rw[<-j];have:(U++y::σ).Perm (U++σ++[y]):=by{rw[yP];exact Ϻ _ (yCr (l₁:=[y]))};have:=this.append_right T;simpa using this};{have Y:=Rv.1 (j▸hs:Ai p (U++σ));refine Rv.2 ⟨Y.1,yBy.2 ⟨O,Y.2.1⟩,λu h v G=>?_⟩;rcases fO.1 G with rfl | G;{exact hu u h};exact Y.2.2 u h v G};rw[Κ hA];simp;omega};refine Hf (λx=>(x=Γ->∃d v,U=d++[v]/\DI p y v)/\(x=Θ->∀u∈U,DI p u y)) (λk hk=>?_) (λx W=>?_);{rw[bp];refine ⟨λh=>?_,λh=>hk _ ⟨by simp,λ_ u hu=>?_⟩⟩;{simp at h;rcases B8 U with rfl | ⟨d,v,rfl⟩;{simp at h};simp only[yCq] at F hk h ⊢;simp only[yCq,vZ,Aq,Tf] at t;have w:i64.wrap (a+((d++[v]).length:Ε)-1)=((P++d).length:Ε):=Dh (by simp;omega) (by simp;omega) (by simp;omega);have e1:P++(d++[v])++y::(σ++T++S)=(P++d)++v::(y::(σ++T++S)):=by{simp};rw[w,eR (by simp;omega),az,show aG (P++(d++[v])++y::(σ++T++S)) ((P++d).length:Ε)=Α v from by rw[e1];exact eR rfl,tx];refine (Fo (by omega) (F y (by simp)) (F v (by simp))).bind λr Z=>hk _ ⟨λh=>⟨d,v,rfl,(Z.1 (by simpa using h)).le⟩,λh u hu=>?_⟩;have aa:DI p v y:=λg=>by{have:=Z.2 g;simp at h;omega};simp only[yCq] at j;have Y:=Rv.1 (j▸hs:Ai p ((d++[v])++σ));have h2:=Rv.1 Y.1;rcases li.1 hu with hu | hu;{exact (h2.2.2 u hu v (by simp)).trans aa};simp at hu;subst hu;exact aa};simp at h;have:U=[]:=by{rw[<-yBf];omega};subst this;simp at hu};rw[bp];refine ⟨λh=>?_,λh=>done (W.2 (by simpa using h))⟩;obtain ⟨d,v,rfl,a1⟩:=W.1 h;simp only[vZ,Aq,Tf] at t;have w:i64.wrap (a+((d++[v]).length:Ε)-1)=((P++d).length:Ε):=Dh (by simp;omega) (by simp;omega) (by simp;omega);have e1:P++(d++[v])++y::(σ++T++S)=(P++d)++v::(y::(σ++T++S)):=by{simp};have e3:P++(d++[v])++v::(σ++T++S)=(P++d)++v::(v::(σ++T++S)):=by{simp};simp only;rw[w,show aG (P++(d++[v])++y::(σ++T++S)) ((P++d).length:Ε)=Α v from by rw[e1];exact eR rfl,tx,eR (by simp;omega),tx,tx,km (by simp;omega),e3,eR (by simp),tx,km (by simp)];refine a0 _ ⟨d,v::σ,by simp;omega,by rw[<-j];simp,λu hu=>?_⟩ (by simp;omega);rcases fO.1 hu with rfl | hu;{exact a1};exact O u hu};refine ⟨A.take 1,A.drop 1,by simp only[yP];rw[<-yP (A.take 1),ND],by rw[ND],?_,?_,?_⟩;{cases A with|nil=>exact .nil|cons=>simp[Ai]};{cases A <;> simp};intro (h:A≠[]);have:=Zi.2 h;simp;omega
def Xe(n:Ε):Β Η:=(Β.range n).map λ(i:Ε)=>(i:Η)
theorem sS(n:Ε):(Xe n).length=n:=by simp[Xe]
def upn_get{n i:Ε}(h:i<n):(Xe n)[i]'(by rw[sS];exact h)=(i:Η):=by simp[Xe]
def UE{p:Β K3}{x:Η}(h:x∈Xe p.length):Vh p x:=by simp only[Xe,ft,yCi] at h;obtain ⟨i,hi,rfl⟩:=h;exact ⟨by omega,by omega⟩
def Wa{α:Type}{z:α}{n:Ε}(h:n<=1000):DA z (n:Η) (n:Η)=Α (κ n z):=by unfold DA;simp;omega
def Tc{N:Ε}{p:Β K3}(hp:p.length<40)(hN:2000<=N):bF (zfj N p) λr=>r.Perm (Xe p.length)/\Ai p r:=by unfold zfj;rw[Wa (by omega),az];refine fE p.length (λi x=>x=((i:Η),(Xe p.length).take i++κ (p.length-i) 0)) (λi x f hi m d=>?_) (λx f m=>?_) (by simp) (by omega);{subst m;have hl:((Xe p.length).take i).length=i:=by{simp[sS];omega};have e:κ (p.length-i) (0:Η)=0::κ (p.length-(i+1)) 0:=by{rw[show p.length-i=(p.length-(i+1))+1 by omega,Β.replicate_succ]};simp only;rw[Ν (by simp;omega),e,eR (by rw[hl]),tx,km (by rw[hl]),bR (by omega)];refine d _ (by rw[Β.take_add_one,eW (by rw[sS];exact hi),upn_get hi];simp)};subst m;rw[yBE (by rw[sS];exact cO _),yCD,Β.replicate_zero,Bh];simp only;rw[Κ (by simp),sS];generalize m:Xe p.length=x;have u:x.length=p.length:=by{rw[<-m,sS]};have g:∀a∈x,Vh p a:=λa h=>UE (by rw[m];exact h);suffices key:∀o:Δ (Β Η),(bF o λr=>r.Perm x/\Ai p r)->bF ((o.bind λv=>Α v).bind λq=>DE p.length q.length<|Α q) λr=>r.Perm x/\Ai p r by{refine key _ ?_;have w:i64.wrap (20+20)=40:=rfl;have y:i64.wrap (2 * 20)=40:=rfl;have z:i64.wrap (20 * 2)=40:=rfl;have F:i64.wrap (0+20)=20:=rfl;by_cases aa:p.length<20;{refine sv (by omega) λf t=>?_;simp only;rw[Κ (by simp;omega)];have O:=Sf (p:=p) (N:=N) (P:=[]) (A:=x) (S:=[]) (a:=0) (E:=p.length) rfl (by simp;omega) (by omega) (by simp;omega) (by simpa using g);rw[vH,Bh] at O;refine O.bind λr d=>?_;obtain ⟨C,rfl,j,n⟩:=d;rw[qv (by simpa using j.length_eq.symm)];refine sv (by omega) λf t=>?_;rw[Κ (by simp;omega),aU];exact ⟨by simpa using j,by simpa using n⟩};refine sv (by omega) λf t=>?_;simp only;have s:x=x.take 20++x.drop 20:=(ND _ _).symm;have T:(x.take 20).length=20:=by{simp;omega};have U:(x.drop 20).length=p.length-20:=by{simp;omega};rw[Ν (by simp;omega)];have W:=Sf (p:=p) (N:=N) (P:=[]) (A:=x.take 20) (S:=x.drop 20) (a:=0) (E:=20) rfl (by rw[T];simp) (by omega) (by simp;omega) (by simpa using g);rw[vH,<-s] at W;refine W.bind λr d=>?_;obtain ⟨C,rfl,j,n⟩:=d;have K:C.length=20:=by{rw[j.length_eq,T]};rw[vH,qv (by simp;omega),w,t];refine sv (by omega) λf t=>?_;simp only;rw[Κ (by simp;omega)];have L:∀a∈C++x.drop 20,Vh p a:=λa h=>g a (by rcases li.1 h with h | h;{exact Mn (j.mem_iff.1 h)};exact yBs h);have Y:=Sf (p:=p) (N:=N) (P:=C) (A:=x.drop 20) (S:=[]) (a:=20) (E:=p.length) (by rw[K];rfl) (by rw[K,U];omega) (by omega) (by simp;omega) (by simpa using L);rw[Bh] at Y;refine Y.bind λr d=>?_;obtain ⟨D,rfl,Z,h4⟩:=d;have lD:D.length=p.length-20:=by{rw[Z.length_eq,U]};have l:(C++D).Perm x:=by{rw[s];exact H7 j Z};rw[Bh,qv (by simp;omega)];refine sv (by omega) λf2 M=>?_;simp only;by_cases ab:p.length=20;{rw[Κ (by simp;omega),aU];have:D=[]:=by{rw[<-yBf];omega};subst this;exact ⟨l,by simpa using n⟩};rw[Ν (by simp;omega),y];refine sv (by omega) λf3 ad=>?_;simp only;rw[Κ (by simp;omega),F];refine Hf (λr=>r.Perm x/\Ai p r) (λk hk=>?_) (λr d=>?_);{rw[Ν (by simp;omega)];have r3:=PV (p:=p) N [] C D [] 0 20 p.length (by rw[<-Zi];omega) (by rw[<-Zi];omega) (by simp;omega) (λa h=>g a (l.mem_iff.1 (by simpa using h))) (by omega) rfl (by rw[K];rfl) (by simp;omega);rw[vH,Bh] at r3;refine r3.bind λr d=>?_;obtain ⟨G,rfl,h5,h6⟩:=d;have lG:=h5.length_eq;rw[qv (by simp at lG ⊢;omega)];exact hk _ ⟨by simpa using h5.trans l,by simpa using h6 n h4⟩};rw[z,M];refine sv (by omega) λf4 af=>?_;simp only;rw[Κ (by simp;omega),aU];exact d};intro o ⟨r,ho,j,n⟩;rw[ho,az,az,qv (by rw[j.length_eq,u])];exact aU.2 ⟨j,n⟩
end Go.Plain
end
