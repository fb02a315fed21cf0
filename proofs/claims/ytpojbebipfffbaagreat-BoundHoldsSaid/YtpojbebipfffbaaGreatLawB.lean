/- Lemmas. -/
import Derived.Test.YtpojbebipfffbaaGreatLawA
set_option linter.all false
open _root_ renaming Bool->Λ,Int->Q,Int.fdiv->π,Int.mul_comm->lg,Int.toNat_natCast->ll,List->Z,List.getElem_mem->mm,List.getElem_of_mem->ϑ,List.pairwise_iff_getElem->Ϲ,List.replicate->μ,List.take_add_one->G6,List.take_succ_eq_append_getElem->θ,Nat->X,Nat.min_eq_right->H4,Option->Δ,True->K8,absurd->υ,Decidable.decide->Θ,Bool.false->Ι,if_neg->Κ,if_pos->Μ,if_true->Υ,ne_eq->fm,not_or->ϥ,Option.some->Y,Bool.true->W
open Go.IntKind (i64 u64)
section
namespace Go.Plain
open Go.Abs
def cmp:X->aG->Q|0,r=>r.bX|1,r=>r.Mem|2,r=>r.b_|_,r=>r.ce
theorem oV{r:aG}:aR r↔∀c,0<=cmp c r/\cmp c r<=1048576:=by constructor;{intro h c;match c with|0=>exact h.FA|1=>exact h.mem|2=>exact h.Hg|_+3=>exact h.Jh};intro h;exact⟨h 0,h 1,h 2,h 3⟩
def NI{a b:aG}(h:∀c,cmp c a=cmp c b):a=b:=by obtain⟨d,e,f,g⟩:=a;obtain⟨i,j,k,m⟩:=b;have n:=h 0;have o:=h 1;have p:=h 2;have q:=h 3;grind[cmp]
def gg(a b:aG):aG:={ bX:=a.bX-b.bX,Mem:=a.Mem-b.Mem,b_:=a.b_-b.b_,ce:=a.ce-b.ce }
def tD(a b:aG):aG:={ bX:=a.bX+b.bX,Mem:=a.Mem+b.Mem,b_:=a.b_+b.b_,ce:=a.ce+b.ce }
def mulR(n:Q)(a:aG):aG:={ bX:=n*a.bX,Mem:=n*a.Mem,b_:=n*a.b_,ce:=n*a.ce }
theorem EU(c:X)(a b:aG):cmp c (gg a b)=cmp c a-cmp c b:=by match c with|0=>rfl|1=>rfl|2=>rfl|_+3=>rfl
theorem TX(c:X)(a b:aG):cmp c (tD a b)=cmp c a+cmp c b:=by match c with|0=>rfl|1=>rfl|2=>rfl|_+3=>rfl
theorem ux(c:X)(n:Q)(a:aG):cmp c (mulR n a)=n*cmp c a:=by match c with|0=>rfl|1=>rfl|2=>rfl|_+3=>rfl
theorem Rg(c:X):cmp c bY=0:=by match c with|0=>rfl|1=>rfl|2=>rfl|_+3=>rfl
theorem Gi{a:Q}(h:a.natAbs<2^53):Cy a=Y a:=by unfold Cy;simp_all
def Ec{a b c d:Q}(e:a.natAbs<2^53)(f:b.natAbs<2^53)(g:c.natAbs<2^53)(h:d.natAbs<2^53):bI (zdi 5000 (a,b) (c,d)) λr=>(r.2=0↔aR ⟨a,b,c,d⟩)/\(r.2=0->r.1=⟨a,b,c,d⟩):=by simp only[zdi,nN,Gi e,Gi f,Gi g,Gi h,ay];refine(Up _).bind λr i=>?_;simp only[bo,aT,iF,pO];grind
def fX{n x:Q}(a:0<=n/\n<=64)(b:0<=x/\x<=1048576):0<=n*x/\n*x<=67108864:=by have d:0<=n*x:=yCa a.1 b.1;have e:n*x<=64*x:=yAY a.2 b.1;omega
def IK{a:aG}{n:Q}(b:aR a)(m:1<=n/\n<=64):bI (ng 5000 a n) λr=>(r.2=0↔aR (mulR n a))/\(r.2=0->r.1=mulR n a):=by simp only[ng];obtain⟨o,g,i⟩:=Up a;have j:=i.2 b;subst j;have d:0<=n/\n<=64:=by{omega};simp only[g,ay,Rt,Λ.false_or];rw[Κ (by simp_all)];by_cases f:a=bY;{subst f;rw[Μ (by exact jk.2 rfl),aT];have:mulR n bY=bY:=by{simp[mulR,bY]};rw[this];exact⟨⟨λ_=>⟨by simp[bY],by simp[bY],by simp[bY],by simp[bY]⟩,λ_=>rfl⟩,λ_=>rfl⟩};rw[Κ (show¬(aG.beq a ({ bX:=0,Mem:=0,b_:=0,ce:=0 }:aG)=W)fromλh=>f (jk.1 h)),Κ (by grind)];have e:∀{x:Q},0<=x/\x<=1048576->z_ x n=Y (x*n):=λ{x} p=>by{unfold z_;grind};have q:=fX d b.FA;have s:=fX d b.mem;have t:=fX d b.Hg;have u:=fX d b.Jh;simp only[zbM,ay,e b.FA,e b.mem,e b.Hg,e b.Jh];rw[lg a.bX n,lg a.Mem n,lg a.b_ n,lg a.ce n];refine(Ec (by omega) (by omega) (by omega) (by omega)).bind λr k=>?_;rw[aT];exact k
def sub_ok{a b:aG}(d:aR a)(e:aR b):bI (BH 5000 a b) λr=>(r.2=0↔aR (gg a b))/\(r.2=0->r.1=gg a b):=by simp only[BH,dZ];obtain⟨o,g,h⟩:=Up a;have i:=h.2 d;subst i;obtain⟨p,j,k⟩:=Up b;have m:=k.2 e;subst m;have f:∀{x y:Q},0<=x/\x<=1048576->0<=y/\y<=1048576->zQ x y=Y (x-y):=λ{x y} q s=>by{unfold zQ;grind};simp only[g,j,ay,Rt,cf,cy,zbM,f d.FA e.FA,f d.mem e.mem,f d.Hg e.Hg,f d.Jh e.Jh];have:=d.FA;have:=d.mem;have:=d.Hg;have:=d.Jh;have:=e.FA;have:=e.mem;have:=e.Hg;have:=e.Jh;refine(Ec (by omega) (by omega) (by omega) (by omega)).bind λr n=>?_;rw[aT];exact n
def dY(l:Z dH)(i:Q):Q:=(l.map λx=>if x.Node=i then x.aQ else 0).sum
def iJ{l:Z dH}{k:X}(h:k<l.length)(i:Q):dY (l.take (k+1)) i=dY (l.take k) i+if l[k].Node=i then l[k].aQ else 0:=by grind[θ,dY]
theorem ye{l:Z dH}(h:∀x∈l,0<=x.aQ)(i:Q):0<=dY l i:=by induction l with|nil=>simp[dY]|cons x l ih=>grind[dY]
def Wo{l m:Z dH}(i:Q):dY (l++m) i=dY l i+dY m i:=by simp[dY]
def UZ{l:Z dH}(h:∀x∈l,0<=x.aQ)(k:X)(i:Q):dY (l.take k) i<=dY l i:=by have:=Wo (l:=l.take k) (m:=l.drop k) i;rw[Ks]at this;have:=ye (l:=l.drop k) (λx a=>h x (yBr a)) i;omega
theorem tO{l:Z dH}{n:Q}(h:bn l n)(i:Q):0<=dY l i/\dY l i<=64:=by refine⟨ye (λx b=>by have:=h.mem x b;omega) i,?_⟩;have a:∀k,k<=l.length->(dY (l.take k) i<=64/\(dY (l.take k) i≠0->i<=OU (l.map (·.Node)) k)):=by{intro k;induction k with|zero=>grind[dY]|succ k ih=>intro hk;obtain⟨d,e⟩:=ih (by omega);have s:=h k (by omega);have s1:=s.up;have f:=s.lt;have g:=s.lo;have j:=s.bV;rw[iJ (by omega),sV (show k<l.length by omega)];omega};have:=(a l.length (cU _)).1;simp_all
theorem TL{l:Z dH}{n:Q}(hl:l.length<=300)(h:bn l n)(i:Q):zdM 5000 l i=Y (dY l i):=by simp only[zdM,dZ];refine bI.eq (fy l.length (λk x=>x=(dY (l.take k) i,(k:Q))) (λk x f d a j=>?_) (λx f a=>?_) (by simp[dY]) (by omega));{subst a;have q:=h.mem _ (bx d);have b:=ye (l:=l.take k) (λx a=>by have:=h.mem x (KJ a);omega) i;have m:=UZ (λx a=>by have:=h.mem x a;omega) k i;have o:=tO h i;have e:=iJ d i;simp only[cK d,Υ,bW d,ay,bT (show k<1000000 by omega),bo,kh];refine⟨λg=>?_,λg=>j _ ?_⟩;{rw[Μ g]at e;grind[wr]};simp_all};subst a;simp only[eR,cf,cy,aT,vS]
def rL(a:br)(i:X)(r:aG):aG:=gg r (mulR (dY a.am i) a.aB)
def wZ(F:Z aG)(a:br):Prop:=∀i (h:i<F.length),aR (rL a i F[i])
structure sW (F:Z aG)(a:br)(G:Z aG):Prop where
 len:G.length=F.length
 cO:∀i (h:i<G.length),G[i]=rL a i (F[i]'(by omega))
def ZO{a:br}{F:Z aG}(hF:F.length<=300)(hl:a.am.length<=300)(L:bn a.am F.length)(z:aR a.aB)(O:∀r∈F,aR r):bI (zcb 5000 a F) λr=>(r.2=0↔wZ F a)/\(r.2=0->sW F a r.1):=by simp only[zcb,zaY,BR (show F.length<=1000000 by omega),ay];have nn:∀x∈a.am,0<=x.aQ:=λx n=>by{have:=L.mem x n;omega};refine fy a.am.length (λk x=>x.1=(k:Q)/\x.2.length=F.length/\(∀r∈x.2,aR r)/\∀i (h:i<x.2.length)(g:i<F.length),x.2[i]=gg F[i] (mulR (dY (a.am.take k) i) a.aB)) (λk x f hk n P=>?_) (λx f n=>?_) ⟨rfl,rfl,O,λi h g=>?_⟩ (by omega);{obtain⟨Η,G⟩:=x;obtain⟨rfl,d,j,b⟩:=n;dsimp only at d j b ⊢;have q:=L.mem _ (bx hk);have M:a.am[k].Node.toNat<G.length:=by{omega};have s:a.am[k].Node.toNat<F.length:=by{omega};have A:((a.am[k].Node.toNat:X):Q)=a.am[k].Node:=by{omega};have R:=iJ hk a.am[k].Node;rw[Μ rfl]at R;have le:=UZ nn (k+1) a.am[k].Node;have n0:=ye (l:=a.am.take k) (λx n=>nn x (KJ n)) a.am[k].Node;have E:=b _ M s;rw[A]at E;have bad:(∃c,cmp c G[a.am[k].Node.toNat]-a.am[k].aQ*cmp c a.aB<0)->¬wZ F a:=λ⟨c,t⟩ u=>by{have K:=oV.1 (u _ s) c;rw[rL,EU,ux,A]at K;rw[E,EU,ux]at t;have w:0<=cmp c a.aB:=(oV.1 z c).1;have h3:(dY (a.am.take k) a.am[k].Node+a.am[k].aQ)*cmp c a.aB<=dY a.am a.am[k].Node*cmp c a.aB:=yAY (by omega) w;grind};simp only[cK hk,Υ,bW hk,ay,bT (show k<1000000 by omega)];refine(IK z q.2.2).bind λr o=>?_;simp only[bo,aT,Jg,fm,SG];refine⟨λh=>⟨⟨λg=>υ g h,λu=>?_⟩,λg=>υ g h⟩,λh=>?_⟩;{exfalso;refine bad ?_ u;have m:¬aR (mulR a.am[k].aQ a.aB):=λv=>h (o.1.2 v);rw[oV]at m;obtain⟨c,t⟩:=yCx.1 m;refine⟨c,?_⟩;rw[ux]at t;have K:=fX (show 0<=a.am[k].aQ/\a.am[k].aQ<=64 by omega) (oV.1 z c);grind[oV,mm]};have S:=o.2 h;have T:=o.1.1 h;obtain⟨Ζ,e⟩:=Bp (l:=G) (x:=a.am[k].Node) (by omega) (by omega);rw[e,ay,S];refine (sub_ok (j _ (bx M)) T).bind λr2 p=>?_;simp only[ay,bo,aT,Jg,fm,SG];refine⟨λg=>⟨⟨λw=>υ w g,λu=>?_⟩,λw=>υ w g⟩,λg=>?_⟩;{exfalso;refine bad ?_ u;have m:¬aR (gg G[a.am[k].Node.toNat] (mulR a.am[k].aQ a.aB)):=λv=>g (p.1.2 v);rw[oV]at m;obtain⟨c,t⟩:=yCx.1 m;refine⟨c,?_⟩;rw[EU,ux]at t;have K:=fX (show 0<=a.am[k].aQ/\a.am[k].aQ<=64 by omega) (oV.1 z c);grind[oV,mm]};have Γ:=p.2 g;have v2:=p.1.1 g;refine P _ ⟨rfl,by simp_all,λr Ε=>?_,λi N Α=>?_⟩;{grind};dsimp only at N ⊢;rw[VP]at N;rw[xAd];have y:=iJ hk (i:Q);split;{rename_i Β;subst Β;rw[Γ,E];rw[Μ A.symm]at y;rw[y];refine NI λc=>?_;rw[EU,EU,EU,ux,ux,ux,Q.add_mul,A];omega};grind};{obtain⟨Η,G⟩:=x;obtain⟨rfl,d,j,b⟩:=n;dsimp only at d j b ⊢;simp only[eR,cf,cy,aT,vS,SH,true_implies]at b ⊢;refine⟨λi h=>?_,d,λi h=>b i h (by omega)⟩;have:=j _ (bx (show i<G.length by omega));rw[b i (by omega) h]at this;exact this};refine NI λc=>?_;rw[EU,ux];simp[dY]
theorem Lp{a:br}(h:a.am.length<=1000000):j_ 5000 a=Y a:=by simp only[j_,zbK,BR h,ay]
structure xo (M:Z (Q×br))(F:Z aG)(a:br):Prop where
 Ad:1<=a.aY/\a.aY<=1048576
 some':a.am≠[]
 shares:bn a.am F.length
 need:aR a.aB
 free:cM M a.aY=none
 fits:wZ F a
def OA{M:Z (Q×br)}{a:br}{F:Z aG}(f:F.length<=300)(hl:a.am.length<=300)(g:∀r∈F,aR r):bI (zbc 5000 M a F) λr=>(r.2.1=0↔xo M F a)/\(r.2.1=0->r.1=jC M a.aY a/\sW F a r.2.2):=by simp only[zbc,dZ,Υ,cf,cy];have no:∀{p:Prop}{x:Z (Q×br)×Q×Z aG}{q:Prop},¬p->x.2.1≠0->bI (Y x) (λr=>(r.2.1=0↔p)/\(r.2.1=0->r.1=jC M a.aY a/\sW F a r.2.2)):=λ{p x q} k m=>by{grind[aT]};rw[bo];refine⟨λh=>?_,λh=>?_⟩;{simp only[fY,bF,kh]at h;refine no (q:=K8) (λt=>?_) (by simp);have:=t.Ad;rcases h with h|h;{omega};exact t.some' (We (by omega))};simp only[fY,bF,kh,ϥ]at h;refine(qg _ _ hl).bind λr i=>?_;rw[bo];refine⟨λe=>no (q:=K8) (λt=>by grind[xo.shares]) (by simp),λe=>?_⟩;simp only[iF,pO]at e;have S:=i.1 e;refine(Up a.aB).bind λn d=>?_;rw[bo];refine⟨λe=>no (q:=K8) (λt=>by grind[xo.need]) (by simp),λe=>?_⟩;simp only[iF,pO]at e;have σ:=d.1 e;cases j:cM M a.aY with|some v=>exact no (q:=K8) (λt=>by grind[xo.free]) (by simp)|none=>simp only[oel];refine(ZO f hl S σ g).bind λo b=>?_;rw[bo];refine⟨λe=>?_,λe=>?_⟩;{simp only[Jg,fm]at e;exact no (q:=K8) (λt=>e (b.1.2 t.fits)) e};simp only[Jg,fm,SG]at e;rw[Lp (by omega),ay,aT];refine⟨⟨λ_=>⟨by omega,λs=>?_,S,σ,j,b.1.1 e⟩,λ_=>rfl⟩,λ_=>⟨rfl,b.2 e⟩⟩;simp_all
def dy{p:Prop}(h:¬p):bI (Y Ι) (λb=>b=W↔p):=by grind[aT]
def rI{p:Prop}(h:p):bI (Y W) (λb=>b=W↔p):=by grind[aT]
structure NF (s:aZ)(st:bL):Prop where
 now:0<=st.aJ/\st.aJ<=1099511627776
 next:1<=st.Next/\st.Next<=s.ko+1
 book:1<=st.cL/\st.cL<=281474976710656
def VH{s:aZ}(k:bm s)(st:bL):gG (kC 5000 s st) (NF s st):=by have e:=k.ids;simp only[kC,zdX,ay,gG];rw[wr (x:=s.ko+1) (by omega) (by omega)];simp only[bo,aT,bM,bF,cf,Jd];exact⟨λa=>⟨λb=>⟨λd=>⟨a,b,d⟩,λh=>h.book⟩,λb h=>b h.next⟩,λa h=>a h.now⟩
def eU(x:Q):Q:=if x=3 then 1 else if x=4 then 2 else if x=5\/x=6 then 3 else 0
def IG(x:Q):0<=eU x/\eU x<=3:=by unfold eU;split<;>(try split)<;>(try split)<;>omega
theorem extra_ok(x:Q):pM 5000 x=Y (eU x):=by simp only[pM,SI,ay,kh,fY];grind[eU]
structure gy (s:aZ)(st:bL)(j:aE):Prop where
 ok:de j
 next:j.Id<st.Next
 user:j.bP<s.aV
 queue:j.Queue<s.aq.length
 born:j.cH<=st.aJ
 start:j.Start<=st.aJ
 fin:j.End<=st.aJ
 version:j.aO<=s.aN+eU j.State
def NP(l:Z aE):X->Q|0=>0|i+1=>((l[i]?).map (·.Id)).getD 0
theorem yg{l:Z aE}{i:X}(h:i<l.length):NP l (i+1)=l[i].Id:=by simp[NP,h]
structure dt (s:aZ)(st:bL):Prop where
 len:(st.ae.length:Q)<=s.ae
 each:∀j∈st.ae,gy s st j
 bg:bD st.ae
def Wn{s:aZ}{st:bL}(h:(st.ae.length:Q)<=s.ae)(g:∀i (h:i<st.ae.length),gy s st st.ae[i]/\NP st.ae i<st.ae[i].Id):dt s st:=⟨h,λj a=>by grind[ϑ],λi b=>by grind[yg]⟩
theorem dt.cO{s:aZ}{st:bL}(h:dt s st)(i:X)(j:i<st.ae.length):gy s st st.ae[i]/\NP st.ae i<st.ae[i].Id:=by refine ⟨h.each _ (bx j),?_⟩;match i,j with|0,j=>have:=(h.each _ (bx j)).ok.id;grind[NP]|i+1,j=>rw[yg (by omega)];exact h.bg i j
theorem dt.ids{s:aZ}{st:bL}(h:dt s st):∀j∈st.ae,0<=j.Id/\j.Id<=1048576:=λj i=>by have:=(h.each j i).ok.id;omega
theorem max3{a b c n:Q}:(if c>(if b>a then b else a)then c else(if b>a then b else a))>n↔a>n\/b>n\/c>n:=by omega
def jobs_ok{s:aZ}(k:bm s){st:bL}(o:iC s st):gG (tT 5000 s st) (dt s st):=by have y:=k.rN;have hl:=o.aL;simp only[tT,dZ,extra_ok,ay];rw[gG,bo];refine⟨λh=>dy λq=>?_,λp=>?_⟩;{have:=q.len;grind};simp only[bF]at p;refine fy st.ae.length (λi x=>x=(NP st.ae i,(i:Q))/\∀j (h:j<st.ae.length),j<i->gy s st st.ae[j]/\NP st.ae j<st.ae[j].Id) (λi x f b e t=>?_) (λx f e=>?_) ⟨rfl,λj h g=>by omega⟩ (by omega);{obtain⟨rfl,n⟩:=e;simp only[cK b,Υ,bW b,ay,bT (show i<1000000 by omega)];refine(yl _).bind λr d=>?_;rw[bo];refine⟨λh=>dy λq=>?_,λh=>?_⟩;{have a:=q.cO i b;have z:=d.2 a.1.ok;have A:=a.1.next;grind};simp only[fY,bF,ϥ,iF,pO]at h;have a:=d.1 h.1.1;rw[bo];refine⟨λh=>dy λq=>?_,λu=>?_⟩;{have a:=(q.cO i b).1;have:=a.user;have:=a.queue;grind};simp only[fY,bF,ϥ]at u;rw[bo];refine⟨λh=>?_,λv=>?_⟩;{refine dy λq=>?_;have a:=(q.cO i b).1;have:=a.born;have:=a.start;have:=a.fin;grind};simp only[bF,max3]at v;have E:=IG st.ae[i].State;rw[wr (x:=s.aN+eU _) (by omega) (by omega),bo];refine⟨λh=>dy λq=>?_,λw=>t _ ⟨by rw[yg b],λj F m=>?_⟩⟩;{have a:=(q.cO i b).1.version;grind};simp only[bF]at w;rcases yBn (yC9.1 m)with g|g;{simp_all};subst g;exact⟨⟨a,by omega,by omega,by omega,by omega,by omega,by omega,by omega⟩,by omega⟩};obtain⟨rfl,n⟩:=e;simp only[eR,cf,cy];exact rI (Wn (by omega) λi b=>n i b b)
structure WaitsIn (s:aZ)(st:bL)(j:aE):Prop where
 fits:zfr 5000 s j.Queue j.aQ j.aB=Y W
 after:∀d∈j.aD,∃i∈st.ae,i.Id=d.aY
def Iz(s:aZ)(st:bL)(j:aE):Prop:=j.State<5->WaitsIn s st j
def Vy{s:aZ}(k:bm s){st:bL}(t:iC s st)(J:dt s st):gG (kD 5000 s st) (∀j∈st.ae,Iz s st j):=by have hl:=t.aL;simp only[kD,dZ,SI,ay];refine SQ st.ae (Iz s st) _ (λh=>h) (λi f o Η u v=>?_) (λf h=>?_) (by omega);{simp only[cK o,Υ,bW o,ay,bT (show i<1000000 by omega)];have a:=J.each _ (bx o);have z:=a.ok.state.st;rw[bo];refine⟨λh=>u λhs=>?_,λh=>?_⟩;{grind};simp only[fY,kh,ϥ]at h;have hs:st.ae[i].State<5:=by{omega};obtain⟨b,x,F⟩:=VO t.spec k (q:=st.ae[i].Queue) (m:=st.ae[i].aQ) a.ok.need a.ok.ug;rw[x,ay,bo];refine⟨λe=>?_,λe=>?_⟩;{rw[aT];refine v λw=>?_;have:=(w hs).fits;simp_all};simp only[iF,pO]at e;subst e;have G:=a.ok.ee;refine vH st.ae[i].aD (λ_ d=>∃j∈st.ae,j.Id=d.aY) (λm g n y A=>?_) (λg y=>?_) (by omega);{simp only[cK n,Υ,bW n,ay,bT (show m<1000000 by omega)];have K:=a.ok.after _ (bx n);have E:=a.ok.id;refine(W_ (by omega) J.bg (id:=st.ae[i].aD[m].aY) (by omega) J.ids).bind λr p=>?_;rw[bo];refine⟨λe=>?_,λe=>A ?_⟩;{rw[aT];refine v λw=>?_;have:=p.1.2 ((w hs).after _ (bx n));simp_all};simp_all};simp only[eR,cf,cy];exact u λ_=>⟨x,Dw y⟩};simp only[eR,cf,cy];exact rI h
structure Lo (s:aZ)(st:bL):Prop where
 len:(st.dX.length:Q)=s.aV
 use:∀x∈st.dX,0<=x/\x<=1099511627776
 PT:st.ar.aq.length=s.aq.length
 nodes:0<=st.ar.aj/\st.ar.aj<=281474976710656
 stamps:∀x∈st.ar.aq,0<=x/\x<=281474976710656
def Fc(l:Z Q)(hl:l.length<=300):gG (lh 5000 l) (∀x∈l,0<=x/\x<=1099511627776):=by simp only[lh];refine SQ l (λx=>0<=x/\x<=1099511627776) _ (λh=>h) (λi f a Η b d=>?_) (λf h=>?_) (by omega);{simp only[cK a,Υ,bW a,ay,bT (show i<1000000 by omega),bo,aT,fY,bF];grind};simp only[eR,cf,cy];exact rI h
def usage_ok{s:aZ}{st:bL}(e:iC s st):gG (p_ 5000 s st) (Lo s st):=by have m:=e.use;have n:=e.stamps;simp only[p_,dZ,zdX,ay,Υ];rw[gG,bo];refine⟨λh=>dy λq=>?_,λh=>?_⟩;{simp only[Jg,fm]at h;exact h q.len};simp only[Jg,fm,SG]at h;refine(Fc st.dX (by omega)).bind λr j=>?_;rw[bo];refine⟨λa=>dy λq=>?_,λa=>?_⟩;{have:=j.2 q.use;simp_all};simp only[iF,pO]at a;rw[bo];refine⟨λb=>dy λq=>?_,λb=>?_⟩;{simp only[Jg,fm]at b;grind[Lo.PT]};simp only[Jg,fm,SG]at b;rw[bo];refine⟨λd=>dy λq=>?_,λd=>?_⟩;{grind[Lo.nodes]};simp only[iF,pO,bM,bF]at d;refine SQ st.ar.aq (λx=>0<=x/\x<=281474976710656) _ (λh=>h.stamps) (λi f k Η o p=>?_) (λf g=>?_) (by omega);{simp only[cK k,Υ,bW k,ay,bT (show i<1000000 by omega),bo,aT,iF,yBL,yBo];grind};simp only[eR,cf,cy];exact rI ⟨h,j.1 a,by omega,d,g⟩
def ref_use(l:Z Q)(n:Q)(hl:l.length<=300):gG (zfG 5000 l n) ((l.length:Q)=n/\∀x∈l,0<=x/\x<=1099511627776):=by simp only[zfG,dZ];refine SQ l (λx=>0<=x/\x<=1099511627776) _ (λh=>h.2) (λi f a Η b d=>?_) (λf h=>?_) (by omega);{simp only[cK a,Υ,bW a,ay,bT (show i<1000000 by omega),bo,aT,bF];grind};simp only[eR,cf,cy,aT,kh];simp_all
def Ny(x:Q):gG (zbB 5000 x) (0<=x/\x<=281474976710656):=by simp only[zbB,gG,aT,bM,bF,ge_iff_le]
def fO(j:aE):Λ:=(j.State==3)||(j.State==4)
def hasJ_lt{j:aE}(h:fO j=W):j.State<5:=by simp only[fO,fY,kh]at h;omega
structure fU (s:aZ)(st:bL)(j:aE)(a:br):Prop where
 Ad:a.aY=j.Id
 need:a.aB=j.aB
 kU:iO s j a.am
 now:st.aJ<j.Start+j.aS
def lZ(F:Z aG)(a:br):Z aG:=F.mapIdx (rL a)
theorem zfl{F:Z aG}{a:br}:(lZ F a).length=F.length:=by simp[lZ]
def nI{F:Z aG}{a:br}{i:X}(h:i<(lZ F a).length):(lZ F a)[i]=rL a i (F[i]'(by grind[zfl])):=by simp[lZ]
theorem sW.eq{F G:Z aG}{a:br}(h:sW F a G):G=lZ F a:=yBF (by rw[h.len,zfl]) λi j o=>by rw[h.cO i j,nI o]
theorem ya{F:Z aG}{a:br}(h:wZ F a):∀r∈lZ F a,aR r:=λr b=>by obtain⟨i,d,rfl⟩:=fo b;rw[nI d];exact h i _
def fP(s:aZ)(st:bL):Z aE->Z br->Z aG->Prop|[],A,_=>A=[]|j::H,A,F=>∃a b,A=a::b/\fU s st j a/\wZ F a/\fP s st H b (lZ F a)
def iU(s:aZ)(st:bL):Prop:=fP s st (st.ae.filter fO) st.ah s.aj
theorem fP.mem{s:aZ}{st:bL}{H:Z aE}{A:Z br}{F:Z aG}(h:fP s st H A F):∀a∈A,∃j∈H,fU s st j a:=by induction H generalizing A F with|nil=>intro a i;rw[show A=[]from h]at i;cases i|cons j H ih=>obtain⟨b,o,rfl,u,x,z⟩:=h;grind
theorem iU.mem{s:aZ}{st:bL}(h:iU s st):∀a∈st.ah,∃j∈st.ae,fU s st j a:=λa i=>by obtain⟨j,o,u⟩:=fP.mem h a i;grind
theorem ZN{α:Type}{M:Z (Q×α)}{k:Q}{a:α}{b:Q}:cM (jC M k a) b=if k=b then Y a else cM M b:=by induction M with|nil=>simp[jC,cM]|cons p M ih=>obtain⟨q,v⟩:=p;simp only[jC];split;{grind[Go.Abs.cM]};rename_i e;simp only[cM,ih];grind
theorem DA{s:aZ}(hs:iT s)(k:bm s):Tk 5000 s=Y W:=by obtain⟨r,e,h⟩:=oJ s hs;rw[e,h.2 k]
theorem KU{l:Z aG}(h:l.length<=1000000):zaN 5000 l=Y l:=by simp only[zaN,BR h]
def GZ{s:aZ}(hs:iT s)(k:bm s):zdj 5000 s=Y (.inr ([],s.aj)):=by have:=hs.nodes;simp only[zdj,DA hs k,ay,Rt,cf,cy,KU (show s.aj.length<=1000000 by omega)]
def Wu{l:Z dH}(h:1<=lQ l):l≠[]:=λe=>by grind[lQ]
structure AInv (s:aZ)(st:bL)(i:X)(x:(Z br)×Q×(Z aG)×Z (Q×br)):Prop where
 ix:x.2.1=(i:Q)
 iff:iU s st↔fP s st ((st.ae.drop i).filter fO) x.1 x.2.2.1
 len:x.2.2.1.length=s.aj.length
 YB:∀r∈x.2.2.1,aR r
 keys:∀q,cM x.2.2.2 q≠none->∃m,∃h:m<st.ae.length,m<i/\st.ae[m].Id=q
 sub:∀a∈x.1,a∈st.ah
 ue:x.1.length<=300
def GK{s:aZ}(k:bm s){st:bL}(z:iC s st)(J:dt s st):gG (ze8 5000 s st) (iU s st):=by have hl:=z.aL;have hn:=z.spec.nodes;unfold ze8;rw[GZ z.spec k,ay];dsimp only;refine fy st.ae.length (AInv s st) (λi x f G R hr=>?_) (λx f R=>?_) ⟨rfl,by simp[iU],rfl,k.nodes.ok,λq h=>υ rfl h,λa Ζ=>Ζ,z.bU⟩ (by omega);{obtain⟨o,x1,F,M⟩:=x;obtain⟨p,d,t,n,g,j,u⟩:=R;dsimp only at p d t n g j u;subst p;rw[yB6 G]at d;have ji:=J.each _ (bx G);have O:=ji.ok;have up:∀q,(∃m,∃h:m<st.ae.length,m<i/\st.ae[m].Id=q)->∃m,∃h:m<st.ae.length,m<i+1/\st.ae[m].Id=q:=λq ⟨m,h,Γ,A⟩=>⟨m,h,by omega,A⟩;simp only[dZ,Pn,cK G,Υ,bW G,ay,bT (show i<1000000 by omega)];rw[bo];refine ⟨λh=>hr _ ⟨rfl,?_,t,n,λq hq=>up q (g q hq),j,u⟩,λh=>?_⟩;{have e:fO st.ae[i]=Ι:=by{grind[fO]};grind};have e:fO st.ae[i]=W:=by{simpa only[fO,iF,pO]using h};rw[Z.filter_cons_of_pos e]at d;have ad:=O.start;have af:=O.wall;rw[wr (x:=st.ae[i].Start+st.ae[i].aS) (by omega) (by omega),bo];refine⟨λΓ=>dy λq=>?_,λΓ=>?_⟩;{obtain⟨a,E,rfl,K,-⟩:=d.1 q;have:=K.now;grind};simp only[fY,bF,kh,ϥ]at Γ;cases o with|nil=>grind|cons a E=>have Ζ:=j a (sN ..);have L:=z.shares a Ζ;have Ε:aH (a::E) 0=Y a:=by{unfold aH;simp_all};have sl:slice? (a::E) 1 ((a::E).length:Q)=Y E:=by{unfold slice?;rw[Μ ⟨by omega,by omega,by omega⟩];simp};simp only[Ε,sl,ay];rw[bo];refine⟨λA=>?_,λA=>?_⟩;{refine dy λq=>?_;obtain⟨Α,y,Β,K,-⟩:=d.1 q;grind[fU.Ad,jk,fU.need]};simp only[fY,Jg,fm,ϥ,SG,iF,pO]at A;have eN:a.aB=st.ae[i].aB:=jk.1 A.2;refine(Q_ z.spec k st.ae[i] a.am (jJ L (by decide))).bind λr aa=>?_;rw[bo];refine⟨λh3=>?_,λh3=>?_⟩;{refine dy λq=>?_;obtain⟨Α,y,Β,K,-⟩:=d.1 q;grind[fU.kU]};simp only[iF,pO]at h3;have S:=aa.1 h3;have P:fU s st st.ae[i] a:=⟨A.1,eN,S,by omega⟩;have T:wZ F a->xo M F a:=λhf=>⟨by have:=O.id;omega,Wu (by have:=O.many;have:=S.XJ;omega),by grind[iO.shares],by grind[de.need],by cases hm:cM M a.aY with|none=>rfl|some v=>obtain⟨m,ak,ab,an⟩:=g a.aY (by simp_all);have:=J.bg.lt ab G;omega,hf⟩;refine(OA (M:=M) (a:=a) (F:=F) (by omega) (jJ L (by decide)) n).bind λr2 N=>?_;rw[bo];refine⟨λΗ=>dy λq=>?_,λΗ=>?_⟩;{obtain⟨Α,y,Β,K,hf,-⟩:=d.1 q;simp_all};simp only[Jg,fm,SG]at Η;have tk:=N.1.1 Η;obtain⟨eM,bh⟩:=N.2 Η;have eF:=bh.eq;refine hr _ ⟨rfl,?_,?_,?_,λq hq=>?_,λb hb=>j b (qT _ hb),?_⟩;{rw[d];dsimp only;rw[eF];constructor;{rintro⟨Α,y,Β,K,hf,w⟩;simp_all};intro w;exact⟨a,E,rfl,P,tk.fits,w⟩};{grind[zfl]};{grind[ya,xo.fits]};{grind[ZN]};grind};obtain⟨o,x1,F,M⟩:=x;obtain⟨p,d,t,n,g,j,u⟩:=R;dsimp only at p d;subst p;rw[Z.drop_length]at d;simp only[eR,cf,cy,aT,kh];rw[d];constructor;{intro h;exact We (by omega)};intro h;rw[show o=[]from h];rfl
structure OneB (n:Q)(b:dS):Prop where
 id:1<=b.Id/\b.Id<=281474976710656
 node:0<=b.Node/\b.Node<n
 lo:0<=b.cn
 span:b.cn<b.To
 bV:b.To<=1099511627776
structure tP (b:dS)(node p q:Q):Prop where
 node:b.Node=node
 span:b.cn<b.To
 pq:p<q
 l:b.cn<q
 r:p<b.To
structure UY (l:Z dS)(n:Q)(i:X)(b:dS):Prop where
 one:OneB n b
 up:∀x (h:x<l.length),x<i->l[x].Id<b.Id/\¬tP l[x] b.Node b.cn b.To
structure yx (l:Z dS)(n:Q):Prop where
 len:l.length<=16
 each:∀i (h:i<l.length),UY l n i l[i]
def He(l:Z dS)(node p q:Q)(hl:l.length<=300):gG (gP 5000 l node p q) (∃b∈l,tP b node p q):=by simp only[gP];refine vH l (λ_ b=>¬tP b node p q) (λi f a _ d=>?_) (λf h=>?_) (by omega);{simp only[cK a,Υ,bW a,ay,bT (show i<1000000 by omega),bo];have e:Θ ((if p>l[i].cn then p else l[i].cn)<(if q<l[i].To then q else l[i].To))=W↔l[i].cn<l[i].To/\p<q/\l[i].cn<q/\p<l[i].To:=by{grind};rw[bM,e,kh];exact⟨λh=>rI ⟨_,bx a,⟨h.1,h.2.1,h.2.2.1,h.2.2.2.1,h.2.2.2.2⟩⟩,λh=>d λm=>h ⟨m.node,m.span,m.pq,m.l,m.r⟩⟩};simp only[eR,cf,cy];exact dy λ⟨b,g,j⟩=>Dw (A:=λb=>¬tP b node p q) h b g j
def Lk(l:Z dS)(node p q:Q)(hl:l.length<=300):gG (zcy 5000 l node p q) (∃b∈l,tP b node p q):=by simp only[zcy];refine vH l (λ_ b=>¬tP b node p q) (λi f a _ d=>?_) (λf h=>?_) (by omega);{simp only[cK a,Υ,bW a,ay,bT (show i<1000000 by omega),bo];simp only[bM,bF,kh];exact⟨λh=>rI ⟨_,bx a,⟨h.1.1.1.1,h.1.1.1.2,h.1.1.2,h.1.2,h.2⟩⟩,λh=>d λm=>h ⟨⟨⟨⟨m.node,m.span⟩,m.pq⟩,m.l⟩,m.r⟩⟩};simp only[eR,cf,cy];exact dy λ⟨b,e,g⟩=>Dw (A:=λb=>¬tP b node p q) h b e g
def book_one(b:dS)(n:Q):gG (tq 5000 b n) (OneB n b):=by simp only[tq,gG,aT,bM,bF];exact⟨λh=>⟨by omega,by omega,by omega,by omega,by omega⟩,λh=>by have:=h.id;have:=h.node;have:=h.lo;have:=h.span;have:=h.bV;omega⟩
def ref_one(b:dS)(n:Q):gG (zfE 5000 b n) (OneB n b):=by simp only[zfE,zbB,ay,gG,bo,aT,bM,bF];refine⟨λa=>⟨λh=>⟨by omega,by omega,by omega,by omega,by omega⟩,λh=>by have:=h.id;have:=h.node;have:=h.lo;have:=h.span;have:=h.bV;omega⟩,λa=>⟨λh=>by simp at h,λh=>by have:=h.id;omega⟩⟩
theorem Ap{α:Type}{l:Z α}{i:X}(h:i<=l.length):slice? l 0 (i:Q)=Y (l.take i):=by unfold slice?;simp_all
def take_mem{l:Z dS}{i:X}{P:dS->Prop}:(∃b∈l.take i,P b)↔∃x,∃h:x<l.length,x<i/\P l[x]:=by constructor;{grind[ϑ]};rintro⟨x,e,a,f⟩;have d:x<(l.take i).length:=by{grind};refine⟨(l.take i)[x],bx d,?_⟩;simp_all
def HV(l:Z dS)(n:Q)(hl:l.length<=300):gG (oI 5000 l n) (yx l n):=by unfold oI;rw[gG,bo];refine⟨λh=>dy λq=>?_,λh=>?_⟩;{have:=q.len;grind};simp only[bF]at h;refine vH l (λi b=>UY l n i b) (λi f d o w=>?_) (λf o=>?_) (by omega);{have y:Θ ((i:Q)>0)=Θ (0<i):=by{simp};simp only[dZ,cK d,Υ,bW d,ay,bT (show i<1000000 by omega),y,Ap (yCr d)];refine(book_one l[i] n).bind λr k=>?_;rw[bo];refine⟨λp=>dy λq=>?_,λp=>?_⟩;{have:=k.2 (q.each i d).one;simp_all};simp only[iF,pO]at p;have O:=k.1 p;have fin:(∀x (h:x<l.length),x<i->l[x].Id<l[i].Id)->bI ((gP 5000 (l.take i) l[i].Node l[i].cn l[i].To).bind λr=>if r=W then Y Ι else f ((i+1:X):Q)) (λb=>b=W↔yx l n):=λs=>by{refine (He (l.take i) _ _ _ (by rw[Dl];omega)).bind λr e=>?_;rw[take_mem]at e;rw[bo];refine⟨λg=>dy λq=>?_,λg=>w ⟨O,λx j a=>⟨s x j a,λm=>g (e.2 ⟨x,j,a,m⟩)⟩⟩⟩;obtain⟨x,j,a,m⟩:=e.1 g;exact((q.each i d).up x j a).2 m};rw[bo];refine⟨λg=>?_,λg=>?_⟩;{simp only[bF]at g;obtain⟨m,rfl⟩:∃m,i=m+1:=⟨i-1,by omega⟩;have t:m<l.length:=by{omega};rw[wp1 (show m+1<1000000 by omega),bW t,ay,bo];refine⟨λu=>dy λq=>?_,λu=>fin λx j a=>?_⟩;{have:=((q.each (m+1) d).up m t (by omega)).1;grind};simp only[bF]at u;rcases yBn (yC9.1 a)with v|v;{have:=((o m t (by omega)).up x j v).1;omega};simp_all};simp_all};simp only[eR,cf,cy];exact rI ⟨by omega,λi d=>o i d⟩
def YV{α:Type}{l:Z α}{i:X}(h:i<l.length):slice? l (i:Q) ((i+1:X):Q)=Y [l[i]]:=by unfold slice?;rw[Μ ⟨by omega,by omega,by omega⟩];grind[θ,Z.drop_eq_nil_of_le]
def ref_book(l:Z dS)(n:Q)(hl:l.length<=300):gG (zem 5000 l n) (yx l n):=by unfold zem;refine vH l (λi b=>UY l n i b) (λi f d p v=>?_) (λf p=>?_) (by omega);{simp only[dZ,cK d,Υ,bW d,ay,bT (show i<1000000 by omega)];refine(ref_one l[i] n).bind λr e=>?_;rw[bo];refine⟨λk=>dy λq=>?_,λk=>?_⟩;{have:=e.2 (q.each i d).one;simp_all};simp only[iF,pO]at k;have O:=e.1 k;refine fy i (λx y=>y=(x:Q)/\∀z (h:z<l.length),z<x->l[z].Id<l[i].Id/\¬tP l[z] l[i].Node l[i].cn l[i].To) (λx y g m o w=>?_) (λy g o=>?_) ⟨rfl,λz h E=>by omega⟩ (by omega);{obtain⟨rfl,s⟩:=o;have a:x<l.length:=by{omega};simp only[cK m,Υ,bW a,ay,bT (show x<1000000 by omega)];rw[bo];refine⟨λt=>dy λq=>?_,λt=>?_⟩;{have:=((q.each i d).up x a m).1;grind};simp only[bF]at t;rw[YV a,ay];refine(Lk [l[x]] _ _ _ (by simp)).bind λr j=>?_;simp only[Df,exists_eq_left]at j;rw[bo];refine⟨λu=>dy λq=>((q.each i d).up x a m).2 (j.1 u),λu=>w _ ⟨rfl,λz F A=>?_⟩⟩;grind};obtain⟨rfl,s⟩:=o;simp only[eR,cf,cy];exact v ⟨O,s⟩};simp only[eR,cf,cy,aT,bF];exact⟨λh=>⟨by omega,λi d=>p i d⟩,λq=>by have:=q.len;omega⟩
def Xm(st:bL)(a:br):Prop:=∀j∈st.ae,j.Id=a.aY->∀x∈a.am,∀b∈st.aA,b.Node=x.Node->¬b.cn<j.Start+j.aS
structure xW (s:aZ)(st:bL):Prop where
 bG:yx st.aA s.aj.length
 live:∀b∈st.aA,b.Id<st.cL/\st.aJ<b.To
 ud:∀a∈st.ah,Xm st a
def Qm{s:aZ}{st:bL}(v:iC s st)(J:dt s st)(A:iU s st):gG (jv 5000 s st) (xW s st):=by have k:=v.bG;have hj:=v.aL;have Ζ:=v.bU;unfold jv;refine (HV st.aA _ (by omega)).bind λr w=>?_;rw[bo];refine⟨λz=>dy λq=>?_,λz=>?_⟩;{grind[xW.bG]};simp only[iF,pO]at z;have B:=w.1 z;refine vH st.aA (λi b=>b.Id<st.cL/\st.aJ<b.To) (λi f n _ E=>?_) (λf R=>?_) (by omega);{simp only[cK n,Υ,bW n,ay,bT (show i<1000000 by omega)];rw[bo];simp only[fY,bF];exact⟨λΓ=>dy λq=>by have:=q.live _ (bx n);omega,λΓ=>E (by omega)⟩};simp only[eR,cf,cy];refine vH st.ah (λi a=>Xm st a) (λi f n _ E=>?_) (λf Ε=>?_) (by omega);{simp only[cK n,Υ,bW n,ay,bT (show i<1000000 by omega)];have F:=bx n;have Α:=v.shares _ F;obtain⟨j,d,P⟩:=A.mem _ F;have o:=J.each j d;have Β:=o.ok.id;have aa:=o.ok.start;have jw:=o.ok.wall;refine(W_ (by omega) J.bg (id:=st.ah[i].aY) (by have:=P.Ad;omega) J.ids).bind λr2 p=>?_;rw[p.1.2 ⟨j,d,P.Ad.symm⟩,Κ (by simp)];have h:=p.2 (p.1.2 ⟨j,d,P.Ad.symm⟩);obtain⟨G,ab⟩:=r2;dsimp only at h ⊢;obtain⟨K,e⟩:=Bp (l:=st.ae) h.lo (by have:=h.lo;have:=h.bV;omega);have ej:st.ae[G.toNat]=j:=by{obtain⟨m,t,rfl⟩:=fo d;have:=J.bg.inj K t (by rw[h.is,P.Ad]);simp_all};rw[ej]at e;rw[e];simp only[ay];rw[wr (x:=j.Start+j.aS) (by omega) (by omega)];have pn:=P.now;refine vH st.ah[i].am (λ_ x=>∀b∈st.aA,b.Node=x.Node->¬b.cn<j.Start+j.aS) (λm g t _ hg=>?_) (λg hG=>?_) (by omega);{simp only[cK t,Υ,bW t,ay,bT (show m<1000000 by omega)];refine (He st.aA _ _ _ (by omega)).bind λr3 u=>?_;rw[bo];refine⟨λL=>dy λq=>?_,λL=>hg λb k hn hf=>L (u.2 ⟨b,k,?_⟩)⟩;{obtain⟨b,k,S⟩:=u.1 L;exact q.ud _ F j d P.Ad.symm _ (bx t) b k S.node S.l};obtain⟨y,T,rfl⟩:=fo k;have:=R y T;exact⟨hn,(B.each y T).one.span,pn,hf,this.2⟩};simp only[eR,cf,cy];refine E λM N O x K b k=>?_;have:M=j:=by{obtain⟨m,t,rfl⟩:=fo d;obtain⟨m',Η,rfl⟩:=fo N;have:=J.bg.inj Η t (by rw[O,P.Ad]);simp_all};subst this;exact Dw (A:=λx=>∀b∈st.aA,b.Node=x.Node->¬b.cn<M.Start+M.aS) hG x K b k};simp only[eR,cf,cy];exact rI ⟨B,Dw R,Dw Ε⟩
structure aI (s:aZ)(st:bL):Prop where
 spec:bm s
 nums:NF s st
 aL:dt s st
 waits:∀j∈st.ae,Iz s st j
 bU:iU s st
 cB:xW s st
 use:Lo s st
def RU{s:aZ}{st:bL}(a:iC s st):gG (pE 5000 s st) (aI s st):=by unfold pE;have step:∀{o:Δ Λ}{P:Prop}{k:Δ Λ},gG o P->(aI s st->P)->(P->gG k (aI s st))->gG (o.bind λr=>if r=W then k else Y Ι) (aI s st):=λe b f=>e.bind λr d=>bo.2 ⟨λh=>f (d.1 h),λh=>dy λq=>h (d.2 (b q))⟩;refine step (oJ s a.spec) (λq=>q.spec) λk=>?_;refine step (VH k st) (λq=>q.nums) λe=>?_;refine step (jobs_ok k a) (λq=>q.aL) λb=>?_;refine step (Vy k a b) (λq=>q.waits) λf=>?_;refine step (GK k a b) (λq=>q.bU) λg=>?_;refine step (Qm a b g) (λq=>q.cB) λi=>?_;refine(usage_ok a).bind λr d=>?_;rw[aT,d];exact⟨λj=>⟨k,e,b,f,g,i,j⟩,λq=>q.use⟩
def cP(A:Z br)(i:Q)(c:X):Q:=(A.map λa=>dY a.am i*cmp c a.aB).sum
theorem XF{a:br}{A:Z br}{i:Q}{c:X}:cP (a::A) i c=dY a.am i*cmp c a.aB+cP A i c:=by simp[cP]
def oe{A:Z br}{k:X}(h:k<A.length)(i:Q)(c:X):cP (A.take (k+1)) i c=cP (A.take k) i c+dY A[k].am i*cmp c A[k].aB:=by grind[θ,cP]
def CU(n:Q)(A:Z br):Prop:=∀a∈A,bn a.am n/\aR a.aB
def OD{n:Q}{a:br}(h:bn a.am n/\aR a.aB)(i:Q)(c:X):0<=dY a.am i*cmp c a.aB/\dY a.am i*cmp c a.aB<=67108864:=fX (tO h.1 i) (oV.1 h.2 c)
theorem pQ{n:Q}{A:Z br}(h:CU n A)(i:Q)(c:X):0<=cP A i c/\cP A i c<=67108864*A.length:=by induction A with|nil=>simp[cP]|cons a A ih=>have e:=ih λb d=>h b (qT _ d);have f:=OD (h a (sN ..)) i c;grind[XF]
def Oj(F:Z aG)(A:Z br):Prop:=∀i (h:i<F.length) c,cP A i c<=cmp c F[i]
theorem KE{a:aG}{n:Q}(b:aR a)(o:0<=n/\n<=64):zds 5000 a n=Y (mulR n a):=by obtain⟨m,rfl⟩:∃m:X,n=(m:Q):=⟨n.toNat,by omega⟩;unfold zds;refine bI.eq (fy m (λk x=>x=((k:Q),(k:Q)*a.bX,(k:Q)*a.Mem,(k:Q)*a.b_,(k:Q)*a.ce)) (λk x f hk d p=>?_) (λx f d=>?_) (by simp) (by omega));{subst d;have g:=fX (n:=((k+1:X):Q)) (by omega) b.FA;have h:=fX (n:=((k+1:X):Q)) (by omega) b.mem;have i:=fX (n:=((k+1:X):Q)) (by omega) b.Hg;have j:=fX (n:=((k+1:X):Q)) (by omega) b.Jh;have e:∀x:Q,((k+1:X):Q)*x=(k:Q)*x+x:=λx=>by{grind};rw[e]at g h i j;simp only[cK hk,Υ,zbk,ay,bT (show k<1000000 by omega)];grind[wr]};subst d;simp only[eR,cf,cy,aT];rfl
def fits_cmp(a b:aG):gG (TK 5000 a b) (∀c,cmp c a<=cmp c b):=by simp only[TK,gG,aT,bM,bF];constructor;{intro h c;match c with|0=>exact h.1.1.1|1=>exact h.1.1.2|2=>exact h.1.2|_+3=>exact h.2};intro h;exact⟨⟨⟨h 0,h 1⟩,h 2⟩,h 3⟩
def ref_left{F:Z aG}{A:Z br}(R:F.length<=300)(S:A.length<=300)(hs:∀a∈A,a.am.length<=300){n:Q}(h:CU n A):bI (ze4 5000 F A) λr=>r.2=W↔Oj F A:=by unfold ze4;refine fy F.length (λi x=>(x.1=W↔∀m (h:m<F.length),m<i->∀c,cP A m c<=cmp c F[m])/\x.2.1=(i:Q)/\x.2.2.length=i) (λi x f b o E=>?_) (λx f o=>?_) ⟨⟨λ_ m h T=>by omega,λ_=>rfl⟩,rfl,rfl⟩ (by omega);{obtain⟨G,K,p⟩:=x;obtain⟨e,d,s⟩:=o;dsimp only at e d s;subst d;simp only[cK b,Υ];refine fy A.length (λk y=>y=((k:Q),cP (A.take k) i 0,cP (A.take k) i 1,cP (A.take k) i 2,cP (A.take k) i 3)) (λk y g hk t L=>?_) (λy g t=>?_) (by simp[cP]) (by omega);{subst t;have u:=h _ (bx hk);have j:CU n (A.take (k+1)):=λa M=>h a (KJ M);have lk:((A.take (k+1)).length:Q)<=300:=by{grind};have N:=pQ j i 0;have O:=pQ j i 1;have P:=pQ j i 2;have Η:=pQ j i 3;rw[oe hk]at N O P Η;simp only[cK hk,Υ,bW hk,ay,TL (hs _ (bx hk)) u.1,KE u.2 (tO u.1 i),zbk,bT (show k<1000000 by omega)];refine L _ ?_;rw[oe hk,oe hk,oe hk,oe hk];have Ζ:(mulR (dY A[k].am i) A[k].aB).bX=dY A[k].am i*cmp 0 A[k].aB:=rfl;have Γ:(mulR (dY A[k].am i) A[k].aB).Mem=dY A[k].am i*cmp 1 A[k].aB:=rfl;have Ε:(mulR (dY A[k].am i) A[k].aB).b_=dY A[k].am i*cmp 2 A[k].aB:=rfl;have Α:(mulR (dY A[k].am i) A[k].aB).ce=dY A[k].am i*cmp 3 A[k].aB:=rfl;grind[wr]};subst t;have ap:∀z:aG,cD p [z]=Y (p++[z]):=λz=>zr (by grind);simp only[eR,cf,cy,dZ,bW b,ay,zdf,ap,bT (show i<1000000 by omega),vS];rw[bo];refine⟨λv=>?_,λv=>?_⟩;{refine(fits_cmp _ _).bind λr w=>?_;refine E _ ⟨?_,rfl,by simp_all⟩;dsimp only;rw[w];have Β:∀c,cmp c ({ bX:=cP A i 0,Mem:=cP A i 1,b_:=cP A i 2,ce:=cP A i 3 }:aG)=cP A i (min c 3):=λc=>by{match c with|0=>rfl|1=>rfl|2=>rfl|c+3=>rw[H4 (by omega)];rfl};have eu:∀c,cP A i (min c 3)=cP A i c:=λc=>by{match c with|0=>rfl|1=>rfl|2=>rfl|c+3=>rw[H4 (by omega)];rfl};grind};grind};obtain⟨G,K,p⟩:=x;obtain⟨e,d,s⟩:=o;dsimp only at e d s;subst d;simp only[eR,cf,cy,aT];rw[e];exact⟨λq i b c=>q i b b c,λq i b _ c=>q i b c⟩
structure Wm (s:aZ)(st:bL)(i:X)(a:br):Prop where
 up:∀m (h:m<st.ah.length),m+1=i->st.ah[m].aY<a.aY
 Ad:∃j∈st.ae,j.Id=a.aY
 shares:bn a.am s.aj.length
 need:aR a.aB
structure dN (s:aZ)(st:bL):Prop where
 each:∀i (h:i<st.ah.length),Wm s st i st.ah[i]
 fit:Oj s.aj st.ah
def dN.yd{s:aZ}{st:bL}(h:dN s st):CU s.aj.length st.ah:=λa o=>by obtain⟨i,j,rfl⟩:=fo o;exact⟨(h.each i j).shares,(h.each i j).need⟩
def Vb{s:aZ}{st:bL}(g:iC s st):gG (zd3 5000 s st) (dN s st):=by have hl:=g.aL;have v:=g.bU;have M:=g.spec.nodes;unfold zd3;refine vH st.ah (λi a=>Wm s st i a) (λi f d t w=>?_) (λf t=>?_) (by omega);{have K:Θ ((i:Q)>0)=Θ (0<i):=by{simp};have x:=g.shares _ (bx d);have fin:(∀m (h:m<st.ah.length),m+1=i->st.ah[m].aY<st.ah[i].aY)->bI ((YO 5000 st.ae st.ah[i].aY).bind λr=>if Θ (r<0)=W then Y Ι else(zbT 5000 st.ah[i].am (s.aj.length:Q)).bind λA=>if(!A)=W then Y Ι else(zbd 5000 st.ah[i].aB).bind λk=>if(!k)=W then Y Ι else f ((i+1:X):Q)) (λb=>b=W↔dN s st):=λy=>by{refine(vQ (by omega) st.ah[i].aY).bind λr n=>?_;rw[bo];refine⟨λh=>dy λq=>?_,λh=>?_⟩;{have:=n.1.2 (q.each i d).Ad;simp_all};simp only[bF]at h;refine (LW _ _ (jJ x (by decide))).bind λA o=>?_;rw[bo];refine⟨λh=>dy λq=>?_,λu=>?_⟩;{have:=o.2 (q.each i d).shares;simp_all};simp only[iF,pO]at u;refine(CO _).bind λk p=>?_;rw[bo];refine⟨λh=>dy λq=>?_,λE=>?_⟩;{have:=p.2 (q.each i d).need;simp_all};simp only[iF,pO]at E;exact w ⟨y,n.1.1 (by omega),o.1 u,p.1 E⟩};simp only[dZ,cK d,Υ,bW d,ay,bT (show i<1000000 by omega),K];rw[bo];refine⟨λh=>?_,λh=>?_⟩;{simp only[bF]at h;obtain⟨m,rfl⟩:∃m,i=m+1:=⟨i-1,by omega⟩;rw[wp1 (show m+1<1000000 by omega),bW (show m<st.ah.length by omega),ay,bo];refine⟨λu=>dy λq=>?_,λu=>fin λN L e=>?_⟩;{have:=(q.each (m+1) d).up m (by omega) rfl;grind};simp_all};simp_all};simp only[eR,cf,cy];have G:CU s.aj.length st.ah:=λa z=>by{obtain⟨j,F,rfl⟩:=fo z;exact⟨(t j F).shares,(t j F).need⟩};refine(ref_left (by omega) v (λa z=>jJ (g.shares a z) (by decide)) G).bind λr w=>?_;rw[aT,w];exact⟨λh=>⟨λi d=>t i d,h⟩,λh=>h.fit⟩
theorem NW{l:Z Q}(h:∀i (h:i+1<l.length),l[i]<l[i+1]):l.Pairwise (·<·):=by rw[yBb];intro i j b d a;induction j with|zero=>omega|succ j ih=>grind
theorem asc_eq{l m:Z Q}(hl:l.Pairwise (·<·))(hm:m.Pairwise (·<·))(h:∀x,x∈l↔x∈m):l=m:=by induction l generalizing m with|nil=>{cases m with|nil=>rfl|cons y m=>grind[Z.mem_cons_self]}|cons x l ih=>cases m with|nil=>grind|cons y m=>rw[yBz]at hl hm;have e:x=y:=by{rcases gJ.1 ((h x).1 (sN ..))with e|a;{exact e};rcases gJ.1 ((h y).2 (sN ..))with e|b;{omega};grind};grind
theorem kO{s:aZ}{st:bL}{H:Z aE}{A:Z br}{F:Z aG}(h:fP s st H A F)(g:∀r∈F,aR r):A.map (·.aY)=H.map (·.Id)/\Oj F A:=by induction H generalizing A F with|nil=>rw[show A=[]from h];exact⟨rfl,λi b c=>by grind[cP,oV,mm]⟩|cons j H ih=>obtain⟨a,k,rfl,m,d,e⟩:=h;obtain⟨n,f⟩:=ih e (ya d);refine⟨by grind[fU.Ad],λi b c=>?_⟩;have:=f i (by grind[zfl]) c;rw[nI,rL,EU,ux]at this;grind[XF]
theorem Rp{s:aZ}{st:bL}{n:Q}{H:Z aE}{A:Z br}{F:Z aG}(d:A.map (·.aY)=H.map (·.Id))(u:∀r∈F,aR r)(m:∀a∈A,∀j∈H,a.aY=j.Id->fU s st j a)(o:CU n A)(p:Oj F A):fP s st H A F:=by induction H generalizing A F with|nil=>{cases A with|nil=>rfl|cons a A=>cases d}|cons j H ih=>cases A with|nil=>cases d|cons a A=>rw[qZ,qZ]at d;have e:a.aY=j.Id:=by{simp_all};have f:A.map (·.aY)=H.map (·.Id):=by{simp_all};have v:=o a (sN ..);have q:CU n A:=λb g=>o b (qT _ g);have fa:wZ F a:=λi h=>oV.2 λc=>by{have t:=p i h c;have w:=OD v i c;have x:=pQ q i c;have y:=oV.1 (u _ (bx h)) c;rw[XF]at t;rw[rL,EU,ux];omega};refine⟨a,A,rfl,m a (sN ..) j (sN ..) e,fa,ih f (ya fa) (λb g k hk=>m b (qT _ g) k (qT _ hk)) q λi h c=>?_⟩;have t:=p i (by grind[zfl]) c;rw[nI,rL,EU,ux];grind[XF]
def Gp{s:aZ}{st:bL}(J:dt s st):((st.ae.filter fO).map (·.Id)).Pairwise (·<·):=by have h:(st.ae.map (·.Id)).Pairwise (·<·):=NW λi a=>by{rw[Gj,Gj];exact J.bg i (by simp_all)};grind
structure HasIn (s:aZ)(st:bL)(j:aE):Prop where
 has:(∃a∈st.ah,a.aY=j.Id)↔fO j=W
 CG:∀a∈st.ah,a.aY=j.Id->fU s st j a
theorem Bf{s:aZ}{st:bL}(k:bm s)(J:dt s st)(A:iU s st):dN s st/\∀j∈st.ae,HasIn s st j:=by obtain⟨o,p⟩:=kO A k.nodes.ok;have pw:=Gp J;rw[<-o]at pw;have CA:∀j∈st.ae,∀f∈st.ae,j.Id=f.Id->j=f:=λj b f d e=>by{obtain⟨m,n,rfl⟩:=fo b;obtain⟨t,g,rfl⟩:=fo d;have:=J.bg.inj n g e;simp_all};refine⟨⟨λi q=>?_,p⟩,λj b=>⟨⟨λ⟨a,h,e⟩=>?_,λr=>?_⟩,λa h e=>?_⟩⟩;{obtain⟨j,b,P⟩:=A.mem _ (bx q);refine ⟨λm n e=>?_,⟨j,b,P.Ad.symm⟩,P.kU.shares,by rw[P.need];exact(J.each j b).ok.need⟩;grind[Ϲ]};{have:a.aY∈st.ah.map (·.aY):=fT.2 ⟨a,h,rfl⟩;grind};{have:j.Id∈(st.ae.filter fO).map (·.Id):=fT.2 ⟨j,EL.2 ⟨b,r⟩,rfl⟩;grind};obtain⟨f,d,P⟩:=A.mem a h;grind[fU.Ad]
def NQ{s:aZ}{st:bL}(k:bm s)(J:dt s st)(R:dN s st)(h:∀j∈st.ae,HasIn s st j):iU s st:=by have pw:(st.ah.map (·.aY)).Pairwise (·<·):=NW λi g=>by{rw[Gj,Gj];exact(R.each (i+1) (by simp_all)).up i (by grind) rfl};refine Rp (n:=s.aj.length) (asc_eq pw (Gp J) λx=>⟨λf=>?_,λf=>?_⟩) k.nodes.ok (λa d j b e=>(h j (EL.1 b).1).CG a d e) R.yd R.fit;{obtain⟨a,d,rfl⟩:=fT.1 f;obtain⟨i,g,rfl⟩:=fo d;obtain⟨j,b,e⟩:=(R.each i g).Ad;exact fT.2 ⟨j,EL.2 ⟨b,(h j b).has.1 ⟨_,d,e.symm⟩⟩,e⟩};obtain⟨j,b,rfl⟩:=fT.1 f;obtain⟨a,d,e⟩:=(h j (EL.1 b).1).has.2 (EL.1 b).2;grind
theorem jn_ite{Ε R:Type}{r:Ε->Δ R}{c:Prop}[Decidable c]{a b:Ε}:jn r (λj=>if c then j a else j b)=r (if c then a else b):=by grind[Go.Abs.jn]
theorem Xj{l:Z dH}{n:Q}(h:bn l n){i:Q}:dY l i>0↔∃x∈l,x.Node=i:=by have b:∀x∈l,1<=x.aQ:=λx a=>(h.mem x a).2.2.1;clear h;induction l with|nil=>simp[dY]|cons y l ih=>have d:=ih λx a=>b x (qT _ a);have f:=b y (sN ..);have g:=ye (l:=l) (λx a=>by grind) i;have e:dY (y::l) i=(if y.Node=i then y.aQ else 0)+dY l i:=by{simp[dY]};grind
def CN(st:bL)(node b:Q)(a:br):Prop:=∃j∈st.ae,j.Id=a.aY/\(∃x∈a.am,x.Node=node)/\b<j.Start+j.aS
def Yc{s:aZ}{st:bL}(u:iC s st)(R:dN s st)(node d:Q):bI (zen 5000 st node d) λb=>dt s st->(b=W↔∃a∈st.ah,CN st node d a):=by have hl:=u.aL;have M:=u.bU;unfold zen;refine vH st.ah (λi a=>dt s st->¬CN st node d a) (λi f q G v=>?_) (λf G=>?_) (by omega);{simp only[dZ,cK q,Υ,bW q,ay,bT (show i<1000000 by omega)];have t:=bx q;refine(vQ (by omega) st.ah[i].aY).bind λr w=>?_;rw[bo];refine⟨λh=>?_,λh=>?_⟩;{simp only[bF]at h;have g:=w.2.1 h;have S:=(R.each i q).shares;obtain⟨K,e⟩:=Bp (l:=st.ae) g.lo (by have:=g.lo;have:=g.bV;omega);have y:=bx K;have fin:bI (if Θ (i64.wrap (st.ae[r.toNat].Start+st.ae[r.toNat].aS)>d)=W then Y W else f ((i+1:X):Q)) (λb=>(∃x∈st.ah[i].am,x.Node=node)->dt s st->(b=W↔∃a∈st.ah,CN st node d a)):=by{rw[bo];refine⟨λk=>?_,λk=>?_⟩;{rw[aT];intro z J;have o:=(J.each _ y).ok;have:=o.start;have:=o.wall;rw[wr (by omega) (by omega)]at k;simp only[bF]at k;exact⟨λ_=>⟨_,t,_,y,g.is,z,k⟩,λ_=>rfl⟩};refine(v λJ E=>?_).mono λb N _=>N;obtain⟨j,n,F,-,L⟩:=E;have:j=st.ae[r.toNat]:=by{obtain⟨m,O,rfl⟩:=fo n;have:=J.bg.inj O K (by rw[F,g.is]);simp_all};subst this;have o:=(J.each _ y).ok;have:=o.start;have:=o.wall;rw[wr (by omega) (by omega)]at k;simp_all};rw[TL (jJ (u.shares _ t) (by decide)) S,ay,e,bo];simp only[ay];refine⟨λk=>?_,λk=>?_⟩;{simp only[bF]at k;grind[Xj]};simp only[bF]at k;rw[Κ (by simp)];exact v λJ ⟨j,n,F,p,L⟩=>k ((Xj S).2 p)};simp only[bF]at h;rw[Κ (by simp)];exact v λJ ⟨j,n,F,p,L⟩=>by simp_all};simp only[eR,cf,cy,aT,Jd];rintro J ⟨a,t,E⟩;exact Dw (A:=λa=>dt s st->¬CN st node d a) G a t J E
def Yw{s:aZ}{st:bL}(y:iC s st)(R:dN s st):bI (zex 5000 s st) λb=>dt s st->(b=W↔xW s st):=by have hl:=y.bG;unfold zex;refine vH st.aA (λi b=>(b.Id<st.cL/\st.aJ<b.To)/\(dt s st->¬∃a∈st.ah,CN st b.Node b.cn a)) (λi f k z n=>?_) (λf z=>?_) (by omega);{simp only[dZ,cK k,Υ,bW k,ay,bT (show i<1000000 by omega)];have d:=bx k;rw[bo];refine⟨λh=>?_,λh=>?_⟩;{rw[aT];intro J;simp only[fY,bF]at h;simp only[cf,Jd];exactλq=>by have:=q.live _ d;omega};simp only[fY,bF]at h;refine(Yc y R _ _).bind λr g=>?_;rw[bo];refine⟨λo=>?_,λo=>n ⟨by omega,λJ=>λq=>o ((g J).2 q)⟩⟩;rw[aT];intro J;simp only[cf,Jd];intro q;obtain⟨a,p,j,t,e,⟨x,u,v⟩,w⟩:=(g J).1 o;exact q.ud a p j t e x u _ d v.symm w};simp only[eR,cf,cy];refine(ref_book _ _ (by omega)).bind λr n=>?_;rw[aT];intro J;rw[n];refine⟨λh=>⟨h,λb d=>?_,λa p j t e x u b d v w=>?_⟩,λq=>q.bG⟩;{grind[ϑ]};obtain⟨m,A,rfl⟩:=fo d;exact(z m A).2 J ⟨a,p,j,t,e,⟨x,u,v.symm⟩,w⟩
structure AtA (l:Z br)(id:Q)(r:Q):Prop where
 lo:0<=r
 bV:r.toNat<l.length
 is:l[r.toNat].aY=id
def Zf{l:Z br}(hl:l.length<=300)(id:Q):bI (zfc 5000 l id) λr=>(0<=r↔∃a∈l,a.aY=id)/\(0<=r->AtA l id r):=by unfold zfc;refine vH l (λ_ j=>j.aY≠id) (λi f h _ b=>?_) (λf h=>?_) (by omega);{simp only[cK h,Υ,bW h,ay,bT (show i<1000000 by omega),bo,aT,kh];exact⟨λe=>⟨⟨λ_=>⟨_,bx h,e⟩,λ_=>by omega⟩,λ_=>⟨by omega,by omega,by simp_all⟩⟩,λe=>b e⟩};simp only[eR,cf,cy,aT];refine⟨⟨λh=>by omega,λ⟨j,d,e⟩=>υ e (Dw (A:=λj=>j.aY≠id) h j d)⟩,λh=>by omega⟩
def dN.CA{s:aZ}{st:bL}(R:dN s st){i j:X}(o:i<st.ah.length)(u:j<st.ah.length)(e:st.ah[i].aY=st.ah[j].aY):i=j:=by have pw:(st.ah.map (·.aY)).Pairwise (·<·):=NW λi o=>by{rw[Gj,Gj];exact(R.each (i+1) (by simp_all)).up i (by grind) rfl};grind[Ϲ]
structure Vt (s:aZ)(st:bL)(j:aE):Prop where
 OT:gy s st j
 waits:Iz s st j
 has:HasIn s st j
def ref_job{s:aZ}(k:bm s){st:bL}(t:iC s st)(R:dN s st){j:aE}(Η:j∈st.ae):gG (zfF 5000 s st j) (Vt s st j):=by have kv:=k.rN;have hl:=t.aL;have E:=t.bU;unfold zfF;refine(JW j (t.after j Η)).bind λr u=>?_;rw[bo];refine⟨λh=>dy λq=>?_,λh=>?_⟩;{have:=u.2 q.OT.ok;rw[this]at h;simp only[fY,bF,Rt,cf,false_or]at h;have:=q.OT.next;have:=q.OT.user;have:=q.OT.queue;have:=q.OT.born;have:=q.OT.start;have:=q.OT.fin;omega};simp only[fY,bF,ϥ,iF,pO]at h;have p:=u.1 h.1.1.1.1.1.1;have T:=p.state.st;have Ζ:=p.start;have Ε:=p.wall;simp only[jn_ite];generalize Α:(if Θ (j.State≥5)=W then(3:Q)else if(j.State==4)=W then 2 else if(j.State==3)=W then 1 else 0)=e;have ev:e=eU j.State:=by{rw[<-Α];simp only[eU,bF,kh,ge_iff_le];omega};have eb:=IG j.State;refine(Zf E j.Id).bind λΒ v=>?_;simp only[dZ,zfI,ay];rw[ev,wr (x:=s.aN+eU j.State) (by omega) (by omega),bo];refine⟨λN=>dy λq=>?_,λN=>?_⟩;{have:=q.OT.version;grind};simp only[bF]at N;have I:gy s st j:=⟨p,by omega,by omega,by omega,by omega,by omega,by omega,by omega⟩;have eh:((j.State==3)||(j.State==4))=fO j:=rfl;rw[eh,bo];refine⟨λh3=>dy λq=>?_,λh3=>?_⟩;{have:=q.has.has;simp_all};have n:(∃a∈st.ah,a.aY=j.Id)↔fO j=W:=by{grind};rw[bo];refine⟨λF=>rI ?_,λF=>?_⟩;{simp only[bF]at F;refine⟨I,λhs=>by omega,n,λa A e=>?_⟩;grind};simp only[bF]at F;have A:=p.ee;refine vH j.aD (λ_ d=>∃i∈st.ae,i.Id=d.aY) (λm g w O hr=>?_) (λg O=>?_) (by omega);{simp only[cK w,Υ,bW w,ay,bT (show m<1000000 by omega)];refine(vQ (by omega) j.aD[m].aY).bind λr y=>?_;rw[bo];refine⟨λz=>dy λq=>?_,λz=>hr (y.1.1 ?_)⟩;{have:=y.1.2 ((q.waits (by omega)).after _ (bx w));simp_all};simp_all};simp only[eR,cf,cy];obtain⟨b,e1,e2⟩:=VO t.spec k (q:=j.Queue) (m:=j.aQ) p.need p.ug;rw[e2,ay,bo];refine⟨λz=>dy λq=>?_,λz=>?_⟩;{have:=(q.waits (by omega)).fits;simp_all};simp only[iF,pO]at z;subst z;have Γ:Iz s st j:=λ_=>⟨e1,Dw O⟩;rw[bo];refine⟨λG=>rI ⟨I,Γ,n,λa A e=>?_⟩,λG=>?_⟩;{simp_all};simp only[iF,pO]at G;have r0:=v.1.2 (n.2 G);have f:=v.2 r0;obtain⟨P,e3⟩:=Bp (l:=st.ah) f.lo (by have:=f.lo;have:=f.bV;omega);have o:=bx P;rw[wr (x:=j.Start+j.aS) (by omega) (by omega),e3,bo];simp only[ay];refine⟨λK=>?_,λK=>dy λq=>?_⟩;{simp only[bF]at K;rw[bo];refine⟨λL=>?_,λL=>dy λq=>L (jk.2 (q.has.CG _ o f.is).need)⟩;have eN:=jk.1 L;refine(ref_mine t.spec k j _ (jJ (t.shares _ o) (by decide))).bind λr M=>?_;rw[aT,M];refine⟨λS=>⟨I,Γ,n,λa A e=>?_⟩,λq=>(q.has.CG _ o f.is).kU⟩;have:a=st.ah[Β.toNat]:=by{obtain⟨m,w,rfl⟩:=fo A;have:=R.CA w P (by rw[e,f.is]);simp_all};subst this;exact⟨e,eN,S,K⟩};have:=(q.has.CG _ o f.is).now;simp_all
def LJ{s:aZ}{st:bL}(d:iC s st):gG (zdv 5000 s st) (aI s st):=by have hl:=d.aL;have hq:=d.stamps;have S:=d.use;unfold zdv;simp only[dZ];refine(XO s d.spec).bind λr g=>?_;rw[bo];refine⟨λh=>?_,λh=>?_⟩;{rw[Μ trivial];refine dy λq=>?_;have:=g.2 q.spec;rw[this]at h;have T:=q.spec.ids;have:=q.nums.now;have:=q.nums.next;have:=q.nums.book;rw[wr (x:=s.ko+1) (by omega) (by omega)]at h;grind};simp only[fY,bF,ϥ,iF,pO]at h;have k:=g.1 h.1.1.1.1.1;have T:=k.ids;rw[wr (x:=s.ko+1) (by omega) (by omega)]at h;refine(Ny st.cL).bind λr2 n=>?_;rw[bo];refine⟨λy=>dy λq=>?_,λy=>?_⟩;{have:=n.2 (by have:=q.nums.book;omega);simp_all};simp only[iF,pO]at y;have u2:=n.1 y;have Γ:NF s st:=⟨by omega,by omega,by omega⟩;rw[bo];refine⟨λO=>?_,λO=>?_⟩;{rw[Μ trivial];refine dy λq=>?_;have:=q.aL.len;grind};simp only[bF]at O;refine(Vb d).bind λr4 z=>?_;rw[bo];refine⟨λA=>?_,λA=>?_⟩;{rw[Μ trivial];refine dy λq=>?_;grind[Bf,aI.aL,aI.bU]};simp only[iF,pO]at A;have R:=z.1 A;refine(Yw d R).bind λr5 E=>?_;rw[bo];refine⟨λF=>?_,λF=>?_⟩;{rw[Μ trivial];refine dy λq=>?_;grind[aI.aL,aI.cB]};simp only[iF,pO]at F;refine(ref_use st.dX s.aV (by omega)).bind λr6 o=>?_;rw[bo];refine⟨λv=>?_,λv=>?_⟩;{rw[Μ trivial];refine dy λq=>?_;have:=o.2 ⟨q.use.len,q.use.use⟩;rw[this]at v;have:=q.use.PT;simp_all};simp only[fY,Jg,fm,ϥ,SG,iF,pO]at v;have P:=o.1 v.1;refine(Ny st.ar.aj).bind λr7 p=>?_;rw[bo];refine⟨λG=>dy λq=>?_,λG=>?_⟩;{have:=p.2 q.use.nodes;simp_all};simp only[iF,pO]at G;have Ε:=p.1 G;refine vH st.ar.aq (λ_ x=>0<=x/\x<=281474976710656) (λi f a _ w=>?_) (λf Α=>?_) (by omega);{simp only[cK a,Υ,bW a,ay,bT (show i<1000000 by omega)];refine(Ny _).bind λr8 t=>?_;rw[bo];refine⟨λΒ=>dy λq=>?_,λΒ=>w (t.1 (by simp_all))⟩;have:=t.2 (q.use.stamps _ (bx a));simp_all};simp only[eR,cf,cy];have Ζ:Lo s st:=⟨P.1,P.2,by omega,Ε,Dw Α⟩;refine vH st.ae (λi j=>Vt s st j/\NP st.ae i<j.Id) (λi f a _ w=>?_) (λf Η=>?_) (by omega);{have hd:Θ ((i:Q)>0)=Θ (0<i):=by{simp};have b:=bx a;simp only[cK a,Υ,bW a,ay,bT (show i<1000000 by omega),hd];refine(ref_job k d R b).bind λr9 u=>?_;rw[bo];refine⟨λK=>dy λq=>?_,λK=>?_⟩;{have:=u.2 ⟨q.aL.each _ b,q.waits _ b,(Bf k q.aL q.bU).2 _ b⟩;simp_all};simp only[iF,pO]at K;have L:=u.1 K;rw[bo];refine⟨λe=>?_,λe=>?_⟩;{simp only[bF]at e;obtain⟨m,rfl⟩:∃m,i=m+1:=⟨i-1,by omega⟩;rw[wp1 (show m+1<1000000 by omega),bW (show m<st.ae.length by omega),ay,bo];refine⟨λM=>dy λq=>?_,λM=>w ⟨L,?_⟩⟩;{have:=q.aL.bg m a;grind};rw[yg (by omega)];simp_all};simp only[bF]at e;have:i=0:=by{omega};subst this;refine w ⟨L,?_⟩;have:=L.OT.ok.id;grind[NP]};simp only[eR,cf,cy];have N:dt s st:=Wn (by omega) λi a=>⟨(Η i a).1.OT,(Η i a).2⟩;have all:∀j∈st.ae,Vt s st j:=λj b=>by{grind[ϑ]};exact rI ⟨k,Γ,N,λj b=>(all j b).waits,NQ k N R λj b=>(all j b).has,(E N).1 F,Ζ⟩
theorem nM{l:Z Q}(h:l.length<=1000000):zaZ 5000 l=Y l:=by unfold zaZ;exact BR h
def F_{s:aZ}(hs:iT s):zdF 5000 s=Y s:=by have g:=hs.nodes;have h:=hs.parts;have j:=hs.fj;unfold zdF;rw[KU (by omega),ay,show zc5 5000 s.aK=Y s.aK from BR (by omega),ay];refine bI.eq (fy s.aK.length (λi x=>x=((i:Q),s.aK)) (λi x f a b d=>?_) (λx f b=>?_) rfl (by omega));{subst b;have e:=hs.part _ (bx a);simp only[cK a,Υ,bW a,ay,bT (show i<1000000 by omega),nM (show s.aK[i].length<=1000000 by omega),ll,yCu];simp_all};subst b;simp only[eR,cf,cy];rw[show zby 5000 s.aq=Y s.aq from BR (by omega),ay];refine fy s.aq.length (λi x=>x=((i:Q),s.aq)) (λi x f a b d=>?_) (λx f b=>?_) rfl (by omega);{subst b;have e:=hs.queue _ (bx a);simp only[cK a,Υ,bW a,ay,bT (show i<1000000 by omega),nM (show s.aq[i].aV.length<=1000000 by omega),ll,yCu];exact d _ (Prod.ext rfl (yCu a))};subst b;simp only[eR,cf,cy,aT]
def YZ{n:Q}(h:1<=n/\n<=8):rz 5000 n=Y (μ n.toNat 0):=by simp only[rz,Gf];rw[Κ (by grind),Κ (by simp_all)];simp only[ay,Di];rw[Μ (by omega)];rfl
def YF{n:Q}(h:1<=n/\n<=256):zeM 5000 n=Y (.inr n):=by simp only[zeM];simp_all
def new_ok{s:aZ}(hs:iT s)(k:bm s):gN 5000 s=Y (.inr (μ s.aq.length 0,[],s.aj,s.aK,s.aq,s.aV,s.ai.iw,s.ai.cI,s.ai.fh,s.ai.bJ,s.ca,s.Mode,s.ae,s.ko,s.aN,s.bz,s.dB,s.In,s.Out,s.cq,0,1,1,μ s.aV.toNat 0,0,s.ae,s.aj)):=by have a:=hs.fj;unfold gN;rw[DA hs k,ay,Κ (by simp),YF k.aL,ay];dsimp only;rw[GZ hs k,ay];dsimp only;rw[F_ hs,ay,YZ k.xS,ay];unfold Di;rw[Μ (by omega),ay];rw[yBS]
theorem Gb{j:aE}(h:j.aD.length<=1000000):kr 5000 j=Y j:=by unfold kr;rw[show zaA 5000 j.aD=Y j.aD from BR h];rfl
def GL{l:Z aE}(hl:l.length<=300)(d:∀j∈l,j.aD.length<=10):zcp 5000 l=Y l:=by unfold zcp;rw[show za7 5000 l=Y l from BR (by omega),ay];refine bI.eq (fy l.length (λi x=>x=((i:Q),l)) (λi x f a b e=>?_) (λx f b=>?_) rfl (by omega));{subst b;have g:=d _ (bx a);simp only[cK a,Υ,bW a,ay,bT (show i<1000000 by omega),Gb (show l[i].aD.length<=1000000 by omega),ll,yCu];simp_all};subst b;simp only[eR,cf,cy,aT]
def mapA(A:Z br):Z (Q×br):=A.map λa=>(a.aY,a)
def oS(A:Z br):Prop:=(A.map (·.aY)).Pairwise (·<·)
theorem mapA_get{A:Z br}(h:oS A):∀i (d:i<A.length),cM (mapA A) A[i].aY=Y A[i]:=by induction A with|nil=>simp_all|cons a A ih=>unfold oS at h;rw[qZ,yBz]at h;intro i d;match i,d with|0,d=>simp[mapA,cM]|i+1, d=>have b:i<A.length:=by{simp_all};have:=h.1 A[i].aY (fT.2 ⟨_,bx b,rfl⟩);have e:cM (mapA (a::A)) A[i].aY=cM (mapA A) A[i].aY:=by{simp only[mapA,qZ,cM];grind};rw[Z.getElem_cons_succ,e];exact ih h.2 i b
theorem LV{A:Z br}{q:Q}(h:∀a∈A,a.aY≠q):cM (mapA A) q=none:=by induction A with|nil=>rfl|cons a A ih=>simp only[mapA,qZ,cM];rw[Κ (h a (sN ..))];exact ih λb d=>h b (qT _ d)
theorem mapA_set{A:Z br}{a:br}(h:∀b∈A,b.aY≠a.aY):jC (mapA A) a.aY a=mapA (A++[a]):=by induction A with|nil=>rfl|cons b A ih=>have:=ih λc d=>h c (qT _ d);simp only[mapA,Fs,qZ,jC]at this ⊢;simp_all
theorem i64wf{n:Q}(h:0<=n/\n<=1048576):(Lit.int .i64 n).wf=W:=by have a:IntKind.i64.min=-9223372036854775808:=by{decide};have b:IntKind.i64.max=9223372036854775807:=by{decide};simp only[Lit.wf,bM,bF,a,b];omega
def Om{A:Z br}(hl:A.length<=300)(h:oS A)(i:∀a∈A,0<=a.aY/\a.aY<=1048576):BV (λk=>k) (mapA A)=Y (A.map (·.aY)):=by have e:(mapA A).map Prod.fst=A.map (·.aY):=by{simp[mapA]};unfold BV;have b:∀p∈mapA A,(Lit.int .i64 p.1).wf=W:=λp d=>by{obtain⟨a,j,rfl⟩:=fT.1 d;grind[i64wf]};have f:(A.map (·.aY)).Nodup:=h.imp λh=>by{omega};have g:(mapA A).length<=1000000:=by{grind[mapA]};rw[e,Μ ⟨g,f,b⟩,Z.mergeSort_of_pairwise (h.imp λh=>by grind)];simp
def HY{A:Z br}(hl:A.length<=300)(h:oS A)(j:∀a∈A,0<=a.aY/\a.aY<=1048576)(hs:∀a∈A,a.am.length<=300):bq 5000 (mapA A)=Y A:=by unfold bq;rw[Om hl h j,ay];refine bI.eq (fy (A.map (·.aY)).length (λi x=>x=((i:Q),A.take i)) (λi x f g d k=>?_) (λx f d=>?_) (by simp) (by grind));{subst d;have b:i<A.length:=by{simp_all};have e:=mapA_get h i b;have m:=hs _ (bx b);simp only[cK g,Υ,bW g,ay,bT (show i<1000000 by omega),Gj,e,oel,Lp (show A[i].am.length<=1000000 by omega)];grind[zr,θ]};subst d;simp only[eR,cf,cy,aT,qY,vS]
def Ew{l:Z dS}(h:l.length<=1000000):za9 5000 l=Y l:=by unfold za9;exact BR h
theorem beq_dep(a:HR):HR.beq a a=W:=by simp[HR.beq]
theorem Yu(a:dH):dH.beq a a=W:=by simp[dH.beq]
theorem beq_book(a:dS):dS.beq a a=W:=by simp[dS.beq]
theorem Qk(a:aG):aG.beq a a=W:=jk.2 rfl
def lpT{α:Type}{b:(Q->Δ Λ)->Q->Δ Λ}(l:Z α)(hs:∀(i:X)(f:Q->Δ Λ)(h:i<l.length),b f (i:Q)=f ((i+1:X):Q))(a:∀f,b f (l.length:Q)=Y W){N:X}(d:l.length<N):bE b N 0=Y W:=bI.eq (vH l (λ_ _=>K8) (λi f h _ e=>by simp_all) (λf _=>by rw[a];exact⟨_,rfl,rfl⟩) d)
def KR(l:Z Q)(hl:l.length<=300):zdT 5000 l l=Y W:=by unfold zdT;rw[Κ (by simp)];refine lpT l (λi f h=>?_) (λf=>?_) (by omega);{simp only[cK h,Υ,bW h,ay,bT (show i<1000000 by omega),yCB,cf,cy]};simp only[eR,cf,cy]
theorem same_job(j:aE)(hl:j.aD.length<=300):ze6 5000 j j=Y W:=by unfold ze6;rw[Κ (by simp)];refine lpT j.aD (λi f h=>?_) (λf=>?_) (by omega);{simp only[cK h,Υ,bW h,ay,bT (show i<1000000 by omega),beq_dep,Rt,cf,cy]};simp only[eR,cf,cy,yC2,Qk,Λ.and_self]
def XS(l:Z aE)(hl:l.length<=300)(a:∀j∈l,j.aD.length<=10):zfa 5000 l l=Y W:=by unfold zfa;rw[Κ (by simp)];refine lpT l (λi f h=>?_) (λf=>?_) (by omega);{have:=a _ (bx h);simp only[cK h,Υ,bW h,ay,bT (show i<1000000 by omega),same_job l[i] (by omega),Rt,cf,cy]};simp only[eR,cf,cy]
theorem Rz(l:Z dH)(hl:l.length<=300):ze9 5000 l l=Y W:=by unfold ze9;rw[Κ (by simp)];refine lpT l (λi f h=>?_) (λf=>?_) (by omega);{simp only[cK h,Υ,bW h,ay,bT (show i<1000000 by omega),Yu,Rt,cf,cy]};simp only[eR,cf,cy]
def Sc(l:Z br)(hl:l.length<=300)(b:∀a∈l,a.am.length<=300):ze0 5000 l l=Y W:=by unfold ze0;rw[Κ (by simp)];refine lpT l (λi f h=>?_) (λf=>?_) (by omega);{have:=b _ (bx h);simp only[dZ,cK h,Υ,bW h,ay,bT (show i<1000000 by omega),yCB,Qk,Rz l[i].am this,Rt,cf,cy]};simp only[eR,cf,cy]
def TU(l:Z dS)(hl:l.length<=300):ze3 5000 l l=Y W:=by unfold ze3;rw[Κ (by simp)];refine lpT l (λi f h=>?_) (λf=>?_) (by omega);{simp only[cK h,Υ,bW h,ay,bT (show i<1000000 by omega),beq_book,Rt,cf,cy]};simp only[eR,cf,cy]
def Th{s:aZ}{st:bL}(a:iC s st):zfb 5000 st st=Y W:=by have b:=a.aL;have d:=a.use;have e:=a.stamps;have f:=a.bG;unfold zfb;rw[Μ (by simp),XS _ (by omega) a.after,ay,Μ rfl,Sc _ a.bU a.sh,ay,Μ rfl,TU _ (by omega),ay,Μ rfl,KR _ (by omega),ay,Μ rfl,KR _ (by omega),ay];simp
def Ru{l:Z aE}(h:bD l)(n:X):bD (l.take n):=λi a=>by rw[Dl]at a;rw[Ub,Ub];exact h i (by omega)
def find_end{l:Z aE}(hl:l.length<=300)(hs:bD l){id:Q}(h:∀j∈l,j.Id<id):zaF 5000 l id=Y ((l.length:Q),Ι):=by unfold zaF;have e:(bE (λb (a:Q×Q)=>if(Θ (a.1<a.2))=W then((aH l (i64.wrap (π (u64.wrap (i64.wrap (a.1+a.2))) (2^1)))).bind λd=>Y (Θ (d.Id≥id))).bind λg=>if(!g)=W then b ((i64.wrap ((i64.wrap (π (u64.wrap (i64.wrap (a.1+a.2))) (2^1)))+1)),a.2)else b (a.1,(i64.wrap (π (u64.wrap (i64.wrap (a.1+a.2))) (2^1))))else Y a.1) 5000 (0,(l.length:Q)))=Y (l.length:Q):=by{refine bI.eq (half hl hs id (λj=>Y (Θ (j.Id<id))) (λj m=>rfl) (λi=>Y i) (λi k n o=>?_) _ (λf x=>?_));{rw[aT];rcases yBn k with q|q;{grind};rw[q]};grind};simp_all
theorem put_ok{l:Z aE}{n:X}(b:n<l.length)(hl:l.length<=300)(hs:bD l){m:Q}(hm:(l.length:Q)<=m)(a:de l[n]):zco 5000 (l.take n) l[n] m=Y (l.take (n+1),0):=by obtain⟨r,e,h⟩:=yl l[n];have d:=h.2 a;subst d;have f:=a.ee;have g:(l.take n).length=n:=by{grind};unfold zco;rw[e,ay,Κ (by simp),find_end (by omega) (Ru hs n) (λj a=>?_),ay];{rw[Κ (by simp),Κ (by grind),Gb (by omega),ay];unfold zbD;have sl:slice? (l.take n) ((l.take n).length:Q) ((l.take n).length:Q)=Y []:=by{unfold slice?;simp_all};rw[sl,ay,Κ (by simp),Μ (by simp),zr (by grind),ay,ay,Jq b]};obtain⟨i,k,rfl⟩:=fo a;rw[Ub];exact hs.lt (by omega) b
def bj(F:Z aG)(l:Z br):Z aG:=l.foldl lZ F
structure TInv (s:aZ)(st:bL)(i:X)(x:Q×(Z aG)×Z (Q×br)):Prop where
 ix:x.1=(i:Q)
 h:∃H,fP s st H (st.ah.drop i) x.2.1
 len:x.2.1.length=s.aj.length
 YB:∀r∈x.2.1,aR r
 m:x.2.2=mapA (st.ah.take i)
 fr:x.2.1=bj s.aj (st.ah.take i)
def Br{s:aZ}{st:bL}(q:aI s st):oS st.ah:=by have h:=(kO q.bU q.spec.nodes.ok).1;unfold oS;rw[h];exact Gp q.aL
def DU{s:aZ}{st:bL}(q:aI s st):∀a∈st.ah,0<=a.aY/\a.aY<=1048576:=λa b=>by obtain⟨j,d,P⟩:=q.bU.mem a b;have:=(q.aL.each j d).ok.id;grind[fU.Ad]
def of_ok{s:aZ}{st:bL}(d:iC s st)(q:aI s st):ed 5000 s st=Y (.inr (st.ar.aq,st.ae,(st.ah.map λa=>(a.aY,a)),s.aj,s.aK,s.aq,s.aV,s.ai.iw,s.ai.cI,s.ai.fh,s.ai.bJ,s.ca,s.Mode,s.ae,s.ko,s.aN,s.bz,s.dB,s.In,s.Out,s.cq,st.aJ,st.Next,st.cL,st.aA,st.dX,st.ar.aj,s.ae,bj s.aj st.ah)):=by have hl:=d.aL;have S:=d.bU;have Α:=d.spec.nodes;have N:=d.bG;have Β:=d.use;have hs:=d.stamps;obtain⟨r,e,h⟩:=RU d;have n:=h.2 q;subst n;have Ζ:=q.aL.len;have Ev:=Br q;unfold ed;rw[e,ay,Κ (by simp),new_ok d.spec q.spec,ay];dsimp only;refine bI.eq ?_;refine fy st.ae.length (λi x=>x=((i:Q),st.ae.take i)) (λi x f g k n=>?_) (λx f k=>?_) rfl (by omega);{subst k;simp only[cK g,Υ,bW g,ay,bT (show i<1000000 by omega),put_ok g hl q.aL.bg Ζ (q.aL.each _ (bx g)).ok,yCB,cf,cy];simp_all};subst k;simp only[eR,cf,cy];refine fy st.ah.length (TInv s st) (λi x f g k n=>?_) (λx f k=>?_) ⟨rfl,⟨_,by rw[yCC];exact q.bU⟩,rfl,q.spec.nodes.ok,rfl,rfl⟩ (by omega);{obtain⟨Γ,F,M⟩:=x;obtain⟨o,t,u,v,w,y⟩:=k;dsimp only at o t u v w y;subst o;have O:=bx g;have A:=d.sh _ O;obtain⟨H,E⟩:=t;rw[yB6 g]at E;obtain⟨j,Ε,P⟩:=q.bU.mem _ O;have G:=(q.aL.each j Ε).ok;have K:wZ F st.ah[i]/\∃Η,fP s st Η (st.ah.drop (i+1)) (lZ F st.ah[i]):=by{cases H with|nil=>cases(show st.ah[i]::st.ah.drop (i+1)=[]from E)|cons j' Η=>obtain⟨a',A',e',-,hf,n⟩:=E;grind};have R:∀b∈st.ah.take i,b.aY≠st.ah[i].aY:=λb N=>by{obtain⟨m,L,rfl⟩:=fo N;rw[Dl]at L;rw[Ub];have:=yBb.1 Ev m i (by grind) (by simp_all) (by omega);grind};have T:xo M F st.ah[i]:=⟨by have:=G.id;have:=P.Ad;omega,Wu (by have:=G.many;have:=P.kU.XJ;omega),by rw[u];exact P.kU.shares,by rw[P.need];exact G.need,by grind[LV],K.1⟩;simp only[cK g,Υ,bW g,ay,bT (show i<1000000 by omega)];refine(OA (M:=M) (a:=st.ah[i]) (F:=F) (by omega) A v).bind λr p=>?_;have z:=p.1.2 T;obtain⟨eM,bh⟩:=p.2 z;rw[z];simp only[yCB,cf,cy];refine n _ ⟨rfl,?_,?_,?_,?_,?_⟩;{grind[sW.eq]};{grind[sW.eq,zfl]};{grind[sW.eq,ya]};{grind[mapA_set,θ]};grind[sW.eq,θ,bj.eq_1]};obtain⟨Γ,F,M⟩:=x;obtain⟨o,t,u,v,w,y⟩:=k;dsimp only at o t u v w y;subst o;simp only[eR,cf,cy];rw[show zaD 5000 st.aA=Y st.aA from BR (by omega),ay,show za5 5000 st.dX=Y st.dX from BR (by omega),ay,show za5 5000 st.ar.aq=Y st.ar.aq from BR (by omega),ay,aT];rw[w,y,vS,vS];rfl
theorem of_no{s:aZ}{st:bL}(a:iC s st)(q:¬aI s st):ed 5000 s st=Y (.inl 2):=by obtain⟨r,e,h⟩:=RU a;have:r=Ι:=by{simp_all};grind[Go.Abs.ed]
def shown{s:aZ}{st:bL}(b:iC s st)(q:aI s st):JZ 5000 st.ar.aq st.ae (st.ah.map λa=>(a.aY,a)) st.aJ st.Next st.cL st.aA st.dX st.ar.aj=Y st:=by have hl:=b.aL;have d:=b.bG;have e:=b.use;have hs:=b.stamps;unfold JZ;rw[GL (by omega) b.after,ay,show bq 5000 (st.ah.map λa=>(a.aY,a))=Y st.ah from HY b.bU (Br q) (DU q) b.sh,ay,Ew (by omega),ay,nM (by omega),ay,show zbq 5000 st.ar.aq=Y st.ar.aq from BR (by omega),ay]
def ZD{s:aZ}{st:bL}(b:iC s st)(q:aI s st):cA 5000 s st=Y (.inr (st.ar.aq,st.ae,(st.ah.map λa=>(a.aY,a)),W,s.aj,s.aK,s.aq,s.aV,s.ai.iw,s.ai.cI,s.ai.fh,s.ai.bJ,s.ca,s.Mode,s.ae,s.ko,s.aN,s.bz,s.dB,s.In,s.Out,s.cq,st.aJ,st.Next,st.cL,st.aA,st.dX,st.ar.aj,s.ae,bj s.aj st.ah)):=by obtain⟨r,d,h⟩:=LJ b;have e:=h.2 q;subst e;unfold cA;rw[of_ok b q,ay];dsimp only;rw[d,ay,Κ (by simp),shown b q,ay,Th b,ay]
theorem Yk{s:aZ}{st:bL}(a:iC s st)(q:¬aI s st):cA 5000 s st=Y (.inl W):=by obtain⟨r,b,h⟩:=LJ a;have:r=Ι:=by{simp_all};grind[Go.Abs.cA,of_no]
theorem gQ{s:aZ}(hs:iT s):zaM 5000 s.aj s.aK s.aq s.aV s.ai.iw s.ai.cI s.ai.fh s.ai.bJ s.ca s.Mode s.ae s.ko s.aN s.bz s.dB s.In s.Out s.cq=Y s:=by unfold zaM;rw[show zdF 5000 _=Y s from F_ hs];rfl
def yM{s:aZ}(hs:iT s)(k:bm s):Tk 5000 s=Y W:=by obtain⟨r,e,h⟩:=oJ s hs;simp_all
def Kq(x a b:Q):∃v,Gf 5000 x a b=Y v:=by unfold Gf;split;{simp_all};split<;>exact⟨_,rfl⟩
def Pt(x:Q):∃v,zdZ 5000 x=Y v:=by obtain⟨r,e⟩:=Kq x 0 1099511627776;unfold zdZ Ib;simp_all
def Yn{s:aZ}(hs:iT s)(k:bm s)(j:aE)(now:Q)(use:Z Q):∃v,qe 5000 s j now use=Y v:=by have d:∃v,sf 5000 now j.cH=Y v:=by{unfold sf;split<;>exact⟨_,rfl⟩};obtain⟨ag,o⟩:=d;obtain⟨i,p⟩:=Kq j.aQ 0 64;unfold qe nF;rw[yM hs k,ay,Κ (by simp)];simp only[dZ,o,p,ay];have m:∀q:Q,∃v:Q×Q×Q×Q,(if((Θ (j.bP≥0))&&(Θ (j.bP<(use.length:Q))))=W then(aH use j.bP).bind λr=>(zdZ 5000 r).bind λt=>Y ((i64.wrap (s.ai.iw*ag)),(i64.wrap (s.ai.cI*i)),(i64.wrap (s.ai.fh*q)),(i64.wrap (s.ai.bJ*t)))else Y ((i64.wrap (s.ai.iw*ag)),(i64.wrap (s.ai.cI*i)),(i64.wrap (s.ai.fh*q)),(i64.wrap (s.ai.bJ*0))))=Y v:=λq=>by{by_cases n:((Θ (j.bP≥0))&&(Θ (j.bP<(use.length:Q))))=W;{have a:=n;simp only[bM,bF]at a;obtain⟨g,e⟩:=Bp (l:=use) a.1 a.2;obtain⟨f,u⟩:=Pt (use[j.bP.toNat]'g);simp_all};rw[Κ n];simp_all};by_cases h:((Θ (j.Queue≥0))&&(Θ (j.Queue<(s.aq.length:Q))))=W;{have b:=h;simp only[bM,bF]at b;obtain⟨g,e⟩:=Bp (l:=s.aq) b.1 b.2;rw[Μ h,e,ay];obtain⟨v,ev⟩:=m (s.aq[j.Queue.toNat]'g).fh;simp_all};rw[Κ h];obtain⟨v,ev⟩:=m 0;simp_all
def Zw(s:aZ)(n:ld)(j:aE):K3:=(kV 5000 s j n).getD (0,0,0)
def keyP_ok{s:aZ}(hs:iT s)(k:bm s)(n:ld)(j:aE):kV 5000 s j n=Y (Zw s n j):=by have:∃v,kV 5000 s j n=Y v:=by{obtain⟨v,e⟩:=Yn hs k j n.aJ n.dX;unfold kV;simp_all};grind[Zw]
def Zg{s:aZ}(hs:iT s)(k:bm s)(n:ld){L:Z aE}(v:∀j∈L,de j)(hl:L.length<40):bI (zcB 5000 L s n) λr=>r.Perm L:=by unfold zcB;rw[yM hs k,ay,Κ (by simp),Pz (by omega),ay];refine fy L.length (λi x=>x=((i:Q),(L.map (Zw s n)).take i++μ (L.length-i) (0,0,0))) (λi x f b a d=>?_) (λx f a=>?_) (by simp) (by omega);{subst a;have hl:((L.map (Zw s n)).take i).length=i:=by{grind};have e:μ (L.length-i) ((0,0,0):K3)=(0,0,0)::μ (L.length-(i+1)) (0,0,0):=by{rw[show L.length-i=(L.length-(i+1))+1 by omega,xAi]};simp only;rw[Μ (cK b),bW b,ay,keyP_ok hs k,ay,e,eL (by rw[hl]),vM,iR (by rw[hl]),bT (by omega)];grind[G6]};subst a;rw[yBy (by simp),yC6,xAj,Ce];simp only;have z:∀x:aE,Di x 0 (L.length:Q)=Y []:=λx=>by{unfold Di;grind};rw[Κ (by simp),z,ay];refine(GA (N:=5000) (p:=L.map (Zw s n)) (by simp_all) (by omega)).bind λr d=>?_;obtain⟨g,w⟩:=d;rw[qY]at g;have m:r.length=L.length:=by{rw[g.length_eq,pV]};have o:∀x∈r,0<=x/\x<L.length:=λx a=>by{have:=Nc (p:=L.map (Zw s n)) (x:=x) (by grind);grind[Uc]};let J:Q->aE:=λx=>L.getD x.toNat { Id:=0,bP:=0,Queue:=0,aQ:=0,aB:=({ bX:=0,Mem:=0,b_:=0,ce:=0 }:aG),aS:=0,aD:=[],State:=0,Ok:=Ι,cS:=Ι,aO:=0,cH:=0,Start:=0,End:=0,Array:=0 };have q:∀x∈r,aH L x=Y (J x):=λx a=>by{grind[Bp]};refine fy r.length (λi x=>x=((i:Q),(r.map J).take i)) (λi x f b a d=>?_) (λx f a=>?_) (by simp) (by omega);{subst a;have t:de (J r[i]):=by{grind[Bp]};simp only;rw[Μ (cK b),bW b,ay,q _ (bx b),ay];have u:zaA 5000 (J r[i]).aD=Y (J r[i]).aD:=BR (by grind[de.ee]);rw[u,ay,zr (by grind),ay,bT (by omega)];refine d _ (by rw[yCg,fe (by grind)];simp)};subst a;simp only;rw[Κ (by simp),aT,yBy (by simp)];have h:(SU L.length).map J=L:=by{apply yBF;{simp[SU]};grind[SU]};grind
section
variable{l:Z aE}(hl:l.length<=300)(hs:bD l)
def Vu(l:Z aE)(d:HR):Prop:=∃j∈l,j.Id=d.aY/\(j.State=5\/j.State=6)/\(d.Ok=W->j.State=5/\j.Ok=W)
include hl in
theorem find_d(id:Q):bI (kf 5000 id l) λr=>(r.2=Ι/\∀j∈l,j.Id≠id)\/∃(i:X)(h:i<l.length),l[i].Id=id/\r=(l[i],W):=by
 unfold kf;refine vH l (λ_ j=>j.Id≠id) (λi f h _ a=>?_) (λf h=>?_) (by omega)
 ·simp only[cK h,Υ,bW h,ay,bT (show i<1000000 by omega),bo,aT,kh]
  grind
 ·simp only[eR,cf,cy,aT];exact .inl ⟨trivial,Dw (A:=λ(j:aE)=>j.Id≠id) h⟩
include hl hs in
theorem Sx{d:HR}{i:X}(a:i<l.length)(e:l[i].Id=d.aY):Vu l d↔(l[i].State=5\/l[i].State=6)/\(d.Ok=W->l[i].State=5/\l[i].Ok=W):=by
 constructor
 ·rintro ⟨j,g,h,b,f⟩;obtain ⟨t,k,rfl⟩:=fo g;have:=hs.inj k a (h.trans e.symm)
  simp_all
 ·rintro ⟨b,f⟩;exact ⟨l[i],bx a,e,b,f⟩
include hl hs in
theorem TF{j:aE}(p:j.aD.length<=10):gG (oM 5000 j l) (∀d∈j.aD,Vu l d):=by
 unfold oM;refine SQ j.aD (Vu l) _ (λh=>h) (λi f b Η q g=>?_) (λf h=>?_) (by omega)
 ·rw[Μ (cK b),bW b,ay];refine (find_d hl _).bind λr a=>?_;rw[dZ];rcases a with ⟨a,k⟩ | ⟨t,m,e,rfl⟩
  ·rw[Μ (by simp[a])];show bI (if W=W then _ else _) _;rw[Μ rfl,aT];exact g λ⟨j,n,e,_⟩=>k j n e
  ·have o:=Sx hl hs m e;unfold xA SI;simp only[ay];rw[Κ (by simp),bT (show i<1000000 by omega)]
   grind [aT]
 ·simp only[eR,cf,cy];exact rI h
def eS(l:Z aE)(j:aE):Λ:=(j.State==1)&&(oM 5000 j l).getD Ι
theorem abl_ok{T:Type}(st:T->Q)(met:T->Δ Λ):∀l:Z T,(∀a∈l,∃b,met a=Y b)->Hb st met l=Y (l.filter λa=>(st a==1)&&(met a).getD Ι)|[],_=>rfl|a::l, h=>by have ih:=abl_ok st met l λx d=>h x (qT _ d);obtain⟨b,e⟩:=h a (sN ..);unfold Hb;grind
include hl hs in
theorem Nu(d:∀j∈l,j.aD.length<=10):gz 5000 l=Y (l.filter (eS l)):=by unfold gz ablG;rw[show X.ble l.length 1000000=W from X.ble_eq▸(by omega)];exact abl_ok _ _ l λa h=>by obtain ⟨b,e,_⟩:=TF hl hs (d a h);simp_all
end
theorem MT{R:Type}{K:Z aE->Δ R}:∀(r b:Z aE),b.length+r.length<=1000->lpR (λ(d:aE)(e:Z aE) f=>(cD e ([d]:Z aE)).bind λg=>f g) K r b=K (b++r)|[],b,_=>by simp[lpR]|a::r, b, h=>by simp only[Ft]at h;unfold lpR;rw[zr (by grind),ay,MT r _ (by grind)];simp
def PP{R:Type}{b:(Q×Q->Δ R)->Q×Q->Δ R}{Η:R->Prop}{l:Z aE}(hl:l.length<=300)(P:aE->Λ)(hs:∀f (c i:X)(h:i<l.length),c<=i->bI (f (((if P l[i]then c+1 else c:X):Q),((i+1:X):Q))) Η->bI (b f ((c:Q),(i:Q))) Η)(g:∀f,bI (b f ((l.countP P:Q),(l.length:Q))) Η):bI (bE b 5000 (0,0)) Η:=by refine fy l.length (λi x=>x=(((l.take i).countP P:Q),(i:Q))) (λi x f d a e=>?_) (λx f a=>?_) (by simp) (by omega);{subst a;refine hs f _ i d (jJ Z.countP_le_length (by grind)) (e _ ?_);grind[G6]};simp_all
def hasB(x:Q):Λ:=(x==3)||(x==4)
def KK{l:Z aE}(hl:l.length<=300)(q:Q):mg 5000 l q=Y (l.countP λj=>(j.Queue==q)&&hasB j.State:Q):=by unfold mg;apply bI.eq;rw[zfK];refine PP hl (λj=>(j.Queue==q)&&hasB j.State) (λf c i a d b=>?_) (λf=>?_);{simp only[dZ];rw[Μ (cK a),bW a,ay,bT (show i<1000000 by omega),bT (show c<1000000 by omega)];unfold Pn;by_cases h:(l[i].Queue==q)=W;{rw[Μ h,ay,ay];simp only[h,yCH]at b;show bI (if hasB l[i].State=W then _ else _) _;grind};simp_all};simp only;rw[Κ (by simp),aT,aT]
def of_eq{l:Z aE}(hl:l.length<=300)(q u:Q):BO 5000 l q u=Y (l.countP λj=>((j.Queue==q)&&(j.bP==u))&&hasB j.State:Q):=by unfold BO;apply bI.eq;rw[zfK];refine PP hl (λj=>((j.Queue==q)&&(j.bP==u))&&hasB j.State) (λf c i a d b=>?_) (λf=>?_);{simp only[dZ];rw[Μ (cK a),bW a,ay,bT (show i<1000000 by omega),bT (show c<1000000 by omega)];unfold Pn;by_cases h:((l[i].Queue==q)&&(l[i].bP==u))=W;{rw[Μ h,ay,ay];simp only[h,yCH]at b;show bI (if hasB l[i].State=W then _ else _) _;grind};grind};simp only;rw[Κ (by simp),aT,aT]
def Jw{s:aZ}(hs:iT s)(k:bm s){l:Z aE}(hl:l.length<=300)(j:aE):∃b,fM 5000 s l j=Y b:=by unfold fM pL;by_cases a:0<=j.Queue/\j.Queue<s.aq.length;{obtain⟨d,e⟩:=Bp (l:=s.aq) a.1 a.2;rw[Μ (by simp_all),yM hs k,ay,ay,Κ (by simp),e,ay,KK hl,ay,of_eq hl,ay];split<;>exact⟨_,rfl⟩};rw[Κ (by simp_all),ay,Μ (by simp)];simp_all
theorem yp{l:Z Q}{n:Q}(h:nr l n):(l.length:Q)<=n\/l=[]:=by have a:∀i,i<l.length->(i:Q)<=l[i]!:=by{intro i;induction i with|zero=>intro b;have:=(h 0 b).1;grind[OU]|succ i ih=>intro b;have d:=ih (by omega);have e:=(h (i+1) b).1;grind[sI]};cases hl:l.length with|zero=>simp_all|succ m=>left;have d:=a m (by omega);have e:=(h m (by omega)).2;grind
def ig{s:aZ}(k:bm s):iT s:={nodes:=by have:=k.nodes.bV;omega,parts:=by have:=k.parts.bV;omega,fj:=by have:=k.fj.bV;omega,part:=λp a=>by have b:=yp (k.parts.ok p a).2;have:=k.nodes.bV;grind,queue:=λq d=>by have b:=yp (k.fj.ok q d).xS;have:=k.xS;grind }
def jX{l:Z dH}{n:Q}(h:bn l n)(b:0<=n):(l.length:Q)<=n:=by rcases yp h.node with a|a;{simp_all};simp_all
def FW{s:aZ}{st:bL}(q:aI s st):iC s st:={spec:=ig q.spec,aL:=by have:=q.aL.len;have:=q.spec.aL;omega,after:=λj b=>by have:=(q.aL.each j b).ok.ee;omega,bU:=by have h:=(kO q.bU q.spec.nodes.ok).1;have d:=IZ Z.length h;simp only[qY]at d;have f:(st.ae.filter fO).length<=st.ae.length:=yBM _ _;have:=q.aL.len;have:=q.spec.aL;omega,bG:=by have:=q.cB.bG.len;omega,use:=by have:=q.use.len;have:=q.spec.xS;omega,stamps:=by have:=q.use.PT;have:=q.spec.fj.bV;omega,shares:=λa e=>by obtain⟨j,b,P⟩:=q.bU.mem a e;have g:=jX P.kU.shares (by omega);have:=q.spec.nodes.bV;omega }
def zeroJ:aE:={ Id:=0,bP:=0,Queue:=0,aQ:=0,aB:={ bX:=0,Mem:=0,b_:=0,ce:=0 },aS:=0,aD:=[],State:=0,Ok:=Ι,cS:=Ι,aO:=0,cH:=0,Start:=0,End:=0,Array:=0 }
def Ss{l:Z aE}(hl:l.length<=300)(hs:bD l)(id:Q):bI (zaF 5000 l id) λr=>(r.2=W↔∃j∈l,j.Id=id)/\(r.2=W->At l id r.1):=by unfold zaF;rw[zfK];refine half hl hs id (λj=>Y (Θ (j.Id<id))) (λj d=>rfl) (λi=>Y i) (λi g m n=>?_) _ (λf x=>?_);{rw[aT,bo];refine⟨λh=>?_,λh=>?_⟩;{simp only[bF]at h;have a:i<l.length:=by{omega};rw[bW a,ay,aT];simp only[kh];refine⟨⟨λe=>⟨_,bx a,e⟩,λ⟨j,b,e⟩=>?_⟩,λe=>⟨by omega,by omega,by simp_all⟩⟩;obtain⟨k,hk,rfl⟩:=fo b;rcases yBv k i with q|q|q;{grind};{simp_all};have:=hs.lt q hk;grind};simp only[bF]at h;simp only[aT,cf,Jd,false_implies,OW];grind[ϑ]};grind
section
variable{l:Z aE}
def job_em(l:Z aE)(id:Q):(∃k,∃h:k<l.length,l[k].Id=id)\/∀j∈l,j.Id≠id:=by by_cases h:∃j∈l,j.Id=id;{obtain⟨j,a,e⟩:=h;obtain⟨k,hk,rfl⟩:=fo a;exact .inl ⟨k,hk,e⟩};exact .inr λj a e=>h ⟨j,a,e⟩
def DD(hl:l.length<=300)(hs:bD l){k:X}(hk:k<l.length):zaF 5000 l l[k].Id=Y ((k:Q),W):=by obtain⟨⟨r,b⟩,e,d,f⟩:=Ss hl hs l[k].Id;have g:b=W:=d.2 ⟨_,bx hk,rfl⟩;subst g;have a:At l l[k].Id r:=f rfl;have:=hs.inj a.bV hk a.is;have:=a.lo;rw[e,show r=(k:Q)by omega]
def ZC(hl:l.length<=300)(hs:bD l){id:Q}(h:∀j∈l,j.Id≠id):∃r,zaF 5000 l id=Y (r,Ι):=by obtain⟨⟨r,b⟩,e,a,g⟩:=Ss hl hs id;have d:b=Ι:=by{cases b with|false=>rfl|true=>obtain⟨j,f,e⟩:=a.1 rfl;exact υ e (h j f)};exact⟨r,by rw[e,d]⟩
def x_{j:aE}(h:de j):zeO 5000 j=Y W:=by obtain⟨r,e,q⟩:=yl j;rw[e,q.2 h]
def tQ(hs:bD l){k:X}(hk:k<l.length){j:aE}(d:j.Id=l[k].Id):bD (l.set k j):=by have a:∀i (h:i<l.length),((l.set k j)[i]'(by simp_all)).Id=l[i].Id:=λi h=>by{grind};intro i e;have b:i+1<l.length:=by{simp_all};rw[a i (by omega),a (i+1) b];exact hs i b
end
def JJ(x:Q):Q:=if x≥281474976710656 then 0 else x+1
def Iy{x:Q}(h:0<=x):im 5000 x=Y (JJ x):=by unfold im JJ;simp only[bF];grind[wr]
def lU(Η:Z Q)(q:Q):Z Q:=if 0<=q/\q<Η.length then Η.set q.toNat (JJ (Η[q.toNat]?.getD 0))else Η
theorem Ay(Η:Z Q)(q:Q):(lU Η q).length=Η.length:=by grind[lU]
def gu(Η:Z Q):Prop:=∀x∈Η,0<=x/\x<=281474976710656
def NJ{x:Q}(h:0<=x/\x<=281474976710656):0<=JJ x/\JJ x<=281474976710656:=by grind[JJ]
theorem yB{Η:Z Q}(h:gu Η)(q:Q):gu (lU Η q):=by unfold lU;split;{rename_i b;have hl:q.toNat<Η.length:=by{omega};intro x a;rcases yBh a with e|e;{exact h x e};subst e;rw[fe hl];exact NJ (h _ (bx hl))};exact h
def PM{Η:Z Q}(h:gu Η)(q:Q):zbu 5000 Η q=Y (lU Η q):=by unfold zbu lU;by_cases a:0<=q/\q<Η.length;{rw[Μ (by simp_all),Μ a];obtain⟨b,e⟩:=Bp (l:=Η) a.1 a.2;rw[e,ay,Iy (h _ (bx b)).1,ay,ay,fe b];rfl};grind
def mn(Η:Z Q)(a b:Q):Z Q:=if b=a then lU Η a else lU (lU Η a) b
def PZ(Η:Z Q)(a b:Q):(mn Η a b).length=Η.length:=by grind[mn,Ay]
def UL{Η:Z Q}(h:gu Η)(a b:Q):gu (mn Η a b):=by grind[mn,yB]
section
variable{l:Z aE}
def xU(x:Q):Prop:=x=1\/x=2
instance(x:Q):Decidable (xU x):=by unfold xU;infer_instance
theorem Hd(x:Q):gT 5000 x=Y (Θ (xU x)):=by unfold gT;congr 1;rw[xAc];rw[bF];simp only[fY,kh,xU]
end
structure Shows (st:bL):Prop where
 aL:st.ae.length<=300
 after:∀j∈st.ae,j.aD.length<=10
 bU:st.ah.length<=300
 Ev:oS st.ah
 ids:∀a∈st.ah,0<=a.aY/\a.aY<=1048576
 sh:∀a∈st.ah,a.am.length<=300
 bG:st.aA.length<=20
 use:st.dX.length<=20
 stamps:st.ar.aq.length<=20
def RW{s:aZ}{st:bL}(a:iC s st)(q:aI s st):Shows st:=⟨a.aL,a.after,a.bU,Br q,DU q,a.sh,a.bG,a.use,a.stamps⟩
def ID{st:bL}(h:Shows st):JZ 5000 st.ar.aq st.ae (st.ah.map λa=>(a.aY,a)) st.aJ st.Next st.cL st.aA st.dX st.ar.aj=Y st:=by have hl:=h.aL;have b:=h.bG;have d:=h.use;have hs:=h.stamps;unfold JZ;rw[GL (by omega) h.after,ay,show bq 5000 (st.ah.map λa=>(a.aY,a))=Y st.ah from HY h.bU h.Ev h.ids h.sh,ay,Ew (by omega),ay,nM (by omega),ay,show zbq 5000 st.ar.aq=Y st.ar.aq from BR (by omega),ay]
section
variable{l:Z aE}
def get_some(hl:l.length<=300)(hs:bD l){k:X}(hk:k<l.length)(a:l[k].aD.length<=1000):zaX 5000 l l[k].Id=Y (l[k],W):=by unfold zaX;rw[DD hl hs hk,ay];simp only[Rt,cf,cy];rw[bW hk,ay,Gb (by omega),ay]
def get_none(hl:l.length<=300)(hs:bD l){id:Q}(h:∀j∈l,j.Id≠id):zaX 5000 l id=Y (zeroJ,Ι):=by unfold zaX;obtain⟨r,e⟩:=ZC hl hs h;rw[e,ay];rfl
def Sl(hl:l.length<=300)(hs:bD l){k:X}(hk:k<l.length)(a:l[k].aD.length<=1000):za1 5000 l l[k].Id=Y (l[k],W):=by unfold za1;rw[get_some hl hs hk a,ay]
def job_none(hl:l.length<=300)(hs:bD l){id:Q}(h:∀j∈l,j.Id≠id):za1 5000 l id=Y (zeroJ,Ι):=by unfold za1;rw[get_none hl hs h,ay]
end
end Go.Plain
end
