/- Lemmas. -/
import Derived.Test.YtcndmfkgdaipaaaGreatLawB
import Derived.Test.YtcndmfkgdaipaaaGreatLawA
set_option linter.all false
open _root_ renaming Bool->Μ,Classical.not_not->B1,Int->Ζ,Go.Lib.compact->ύ,Go.Lib.compactUpTo->G7,Go.Lib.keeps->F7,List->Β,List.Pairwise.sublist->s7,List.Perm.append->Cv,List.eq_nil_or_concat->s6,List.length->φ,List.length_mergeSort->s5,List.replicate->μ,Nat->Ε,Option->Δ,Option.bind_some->χ,Decidable.decide->Θ,Bool.false->Ι,if_neg->Κ,if_pos->Λ,if_true->Υ,Option.some->Α,Bool.true->Γ
open Go.IntKind (i64 u64)
section
namespace Go.Plain
open Go.Abs
theorem wo{zs:Β Ζ}{j:Ε}(h:j<zs.length):zs.toArray[j]! = zs[j]:=by simp_all
def NG(zs:Β Ζ)(x:Ζ):x∈ύ zs↔x∈zs:=by unfold ύ G7;constructor;{grind};intro h;obtain ⟨j,hj,rfl⟩:=jb h;have:∀j (hj:j<zs.length),zs[j]∈((Β.range zs.length).filter (F7 zs.toArray)).map (zs.toArray[·]!):=by{intro j;induction j with|zero=>intro hj;exact jp.2 ⟨0,Kk.2 ⟨yCi.2 hj,by simp[F7]⟩,wo hj⟩|succ j ih=>intro hj;by_cases e:zs[j+1]=zs[j];{simp_all};refine jp.2 ⟨j+1,Kk.2 ⟨yCi.2 hj,?_⟩,wo hj⟩;unfold F7;grind};simp_all
def HI{zs:Β Ζ}(h:zs.Pairwise λa b=>a<=b):(ύ zs).Pairwise λa b=>a<=b:=by unfold ύ G7;rw[Β.pairwise_map];grind [wo,Β.pairwise_iff_getElem]
def eqLen_ok{R:Type}{a b:Ε}(h:a=b)(k:Δ R):DW a b k=k:=by grind [Go.Abs.DW,Ε.beq_refl]
structure ZS (nodes:Β (Β bV)) (part:Β Ζ) (T:Β Ζ):Prop where
 bq:T.Pairwise λa b=>a<=b
 mem:∀x,x∈T↔∃n∈part,∃s∈(nodes[n.toNat]?).getD [],s.At=x
def WM{l:Β Ζ}(hl:l.length<=1000000){Q:Β Ζ->Prop}(h:∀T,T.Pairwise (λa b=>a<=b)->(∀x,x∈T↔x∈l)->T.length<=l.length->Q T) : bR ((zcH 5000 l).bind λe=>DW l.length e.length<|(zb3 5000 e).bind λf=>Α f.2) Q:=by unfold zcH zb3 PW;rw[Abs.Oj];have d:∀m:Β Ζ,m.map (λk=>k)=m:=λm=>Β.map_id' m;rw[Λ hl,aw,d,d,eqLen_ok (s5 l).symm];unfold Qt;rw[Λ (by simp_all),aw,aZ,d,d];have g:∀a b c:Ζ,Θ (a<=b)=Γ->Θ (b<=c)=Γ->Θ (a<=c)=Γ:=λa b c n o=>by{grind};have i:∀a b:Ζ,(Θ (a<=b) || Θ (b<=a))=Γ:=λa b=>by{grind};have hs:(l.mergeSort λx y=>Θ (x<=y)).Pairwise λa b=>a<=b:=(Β.pairwise_mergeSort g i l).imp λ{a b} h=>by{simp_all};refine h _ (HI hs) (λx=>?_) (by grind [Go.Abs.zV,s5]);rw[NG,(Β.mergeSort_perm l _).mem_iff]
def Io{nodes:Β (Β bV)}{q:eY}{L:Ε}(hL:L<=200)(hq:jD q)(hp:PR nodes q L){w:Ch}(hw:FK q w) : bR (zbI 5000 nodes w.Part q.S.aH) λT=>ZS nodes (cq q w) T/\T.length<=3200:=by have nn:=hq.spec.nodes.hi;obtain ⟨u,v⟩:=iq hw;have r:=hq.spec.parts.ok _ v;have pl:(cq q w).length<=16:=by{rcases xU r.2 with h | h;{omega};simp_all};have t:=hp.len;unfold zbI;rw[Κ (by have:=hw.part;simp_all),u,aw];refine gR (cq q w).length (λi x=>x.1=(i:Ζ)/\x.2.length<=200 * i/\∀y,y∈x.2↔∃n∈(cq q w).take i,∃s∈(nodes[n.toNat]?).getD [],s.At=y) (λi x f hi a z=>?_) (λx f a=>?_) ⟨rfl,by simp,λy=>by simp⟩ (by omega);{obtain ⟨y,T⟩:=x;obtain ⟨rfl,g,b⟩:=a;dsimp only at g b ⊢;have hn:=r.2.mem _ (bG hi);obtain ⟨k,A⟩:∃k:Ε,(cq q w)[i]=(k:Ζ):=⟨((cq q w)[i]).toNat,by omega⟩;have hk:k<nodes.length:=by{omega};obtain ⟨G,lk⟩:=hp.cn.each k hk;rw[Λ (cP hi),bZ hi,aw,A,bZ hk,aw];refine gR nodes[k].length (λj x=>x.1=(j:Ζ)/\x.2.length=T.length+j/\∀y,y∈x.2↔y∈T\/∃s∈nodes[k].take j,s.At=y) (λj x E hj a m=>?_) (λx E a=>?_) ⟨rfl,rfl,λy=>by simp⟩ (by omega);{obtain ⟨y,U⟩:=x;obtain ⟨rfl,o,d⟩:=a;dsimp only at o d ⊢;rw[Λ (cP hj),bZ hj,aw,sF (by grind),aw,bY (show j<1000000 by omega)];refine m _ ⟨rfl,by grind,λy=>?_⟩;dsimp only;rw[jI,yk,d,or_assoc];refine or_congr_right ?_;constructor;{rintro (⟨s,e,p⟩ | h);{grind};exact ⟨_,(eS hj).2 (.inr rfl),h.symm⟩};rintro ⟨s,e,p⟩;rcases (eS hj).1 e with e | e;{grind};simp_all};obtain ⟨y,U⟩:=x;obtain ⟨rfl,o,d⟩:=a;dsimp only at o d ⊢;rw[Κ (by simp),bY (show i<1000000 by omega)];rw[tU] at d;refine z _ ⟨rfl,by grind,λy=>?_⟩;dsimp only;rw[d,b,HV hi];simp_all};obtain ⟨y,T⟩:=x;obtain ⟨rfl,g,b⟩:=a;dsimp only at g b ⊢;rw[Κ (by simp)];rw[tU] at b;exact WM (by omega) λU e p K=>⟨⟨e,λx=>(p x).trans (b x)⟩,by omega⟩
def cd(q:eY)(w:Ch)(t:Ζ):Β dj×Μ:=(Ye 5000 q w t).getD ([],Ι)
structure tE (q:eY) (w:Ch) (T:Β Ζ) (r:dG×Μ):Prop where
 Xq:r.2=Γ->r.1.At∈T/\(cd q w r.1.At).2=Γ/\(∀s∈T,(cd q w s).2=Γ->r.1.At<=s)/\r.1.aU=0/\r.1.aj=(cd q w r.1.At).1
 no:r.2=Ι->(∀s∈T,(cd q w s).2=Ι)/\r.1={ aU:=0,At:=0,aj:=[] }
section
variable{nodes:Β (Β bV)}{q:eY}{L:Ε}(hL:L<=200)(hq:jD q)(hp:PR nodes q L){w:Ch}(hw:FK q w)
include hL hq hp hw
theorem Dj{t:Ζ}(b:q.aM<=t):zaK 5000 nodes w.Part w.aN w.aA w.aR t q.aM q.S.aH=Α (cd q w t)/\Ye 5000 q w t=Α (cd q w t):=by by_cases d:t<=1099511627776;{obtain ⟨F,_,_,e,a⟩:=yd (by omega) hq hp hw b d;have:cd q w t=xQ F (cq q w) w.aN w.aA:=by{grind [cd]};simp_all};have a:Ye 5000 q w t=Α ([],Ι):=by{unfold Ye;simp_all};have:cd q w t=([],Ι):=by{grind [cd]};rw[this];refine ⟨?_,a⟩;unfold zaK;simp_all
theorem Ya:bR (zaI 5000 q w) λr=>∃T,Ck q T/\tE q w T r:=by unfold zaI;refine (Qs hq).bind λT a=>?_;have k:=a.len;refine xE T (λ_ t=>(cd q w t).2=Ι) (λi f hi b d=>?_) (λf b=>?_) (by omega);{have e:=(a.mem T[i]).1 (bG hi);rw[Λ (cP hi),bZ hi,aw,(Dj hL hq hp hw e.1).2,aw,bB,bY (show i<1000000 by omega)];refine ⟨λh=>?_,λh=>d (by simp_all)⟩;rw[aw,aZ];refine ⟨T,a,⟨λ_=>⟨bG hi,h,λs hs m=>?_,rfl,rfl⟩,λh=>by simp at h⟩⟩;obtain ⟨j,hj,rfl⟩:=jb hs;dsimp only;rcases Yj j i with g | g | g;{simp_all};{simp_all};have:=yBb.1 a.bq i j hi hj g;omega};rw[Κ (by simp),aZ];exact ⟨T,a,⟨λh=>by simp at h,λ_=>⟨ER (A:=λt=>(cd q w t).2=Ι) b,rfl⟩⟩⟩
theorem IM{T:Β Ζ}(b:ZS nodes (cq q w) T):q.aM∈T/\∀x∈T,q.aM<=x:=by obtain ⟨i,g⟩:=iq hw;have d:=hq.spec.parts.ok _ g;have e:=hp.len;constructor;{have f:0<(cq q w).length:=by{omega};have hn:=d.2.mem _ (bG f);have hk:((cq q w)[0]).toNat<nodes.length:=by{omega};obtain ⟨a,lk⟩:=hp.cn.each _ hk;refine (b.mem _).2 ⟨_,bG f,nodes[((cq q w)[0]).toNat][0]'a.ne,?_,hp.cn.first _ hk a.ne⟩;simp_all};intro x h;obtain ⟨n,hn,s,hs,rfl⟩:=(b.mem x).1 h;have nb:=d.2.mem n hn;have hk:n.toNat<nodes.length:=by{omega};obtain ⟨a,lk⟩:=hp.cn.each _ hk;rw[eI hk,UJ] at hs;obtain ⟨j,hj,rfl⟩:=jb hs;have:=hp.cn.first _ hk a.ne;have:=a.le (Q_ j) hj;omega
theorem TF:bR (zaN 5000 nodes w.Part w.aN w.aA w.aR q.aM q.S.aH) fun r=>∃T,ZS nodes (cq q w) T/\tE q w T r:=by unfold zaN;refine (Io hL hq hp hw).bind fun T d=>?_;obtain ⟨d,v⟩:=d;have a:=(IM hL hq hp hw d).2;have fin:∀i (hi:i<T.length),(∀j (hj:j<T.length),j<i->(cd q w T[j]).2=Ι)->(cd q w T[i]).2=Γ->tE q w T ({ aU:=0,At:=T[i],aj:=(cd q w T[i]).1 },Γ):=fun i hi e h=>⟨fun _=>⟨bG hi,h,fun s hs m=>by obtain ⟨j,hj,rfl⟩:=jb hs;dsimp only;rcases Yj j i with g | g | g;{simp_all};{simp_all};have:=yBb.1 d.bq i j hi hj g; omega,rfl,rfl⟩,fun h=>by simp at h⟩;have none:(∀j (hj:j<T.length),(cd q w T[j]).2=Ι)->tE q w T ({ aU:=0,At:=0,aj:=[] },Ι):=fun e=>⟨fun h=>by simp at h,fun _=>⟨ER (A:=fun t=>(cd q w t).2=Ι) e,rfl⟩⟩;rw [bB];refine ⟨fun h=>?_,fun h=>?_⟩;{rw [aZ];grind};have n:0<T.length:=by{grind};have o:aC T 0=Α T[0]:=bZ n;rw [o,aw,(Dj hL hq hp hw (a _ (bG n))).1,aw,bB];refine ⟨fun p=>?_,fun p=>?_⟩;{grind [aZ]};refine gR (T.length-1) (fun i x=>x=(T,((i+1:Ε):Ζ))/\∀j (hj:j<T.length),j<i+1->(cd q w T[j]).2=Ι) (fun i x f hi k y=>?_) (fun x f k=>?_) ⟨rfl,fun j hj u=>?_⟩ (by omega);{obtain ⟨rfl,e⟩:=k;have b:i+1<T.length:=by{omega};dsimp only;rw [Κ (by grind),bZ b,aw,(Dj hL hq hp hw (a _ (bG b))).1,aw,bB];refine ⟨fun m=>?_,fun m=>?_⟩;{grind [aZ]};rw [bY (show i+1<1000000 by omega)];grind};{obtain ⟨rfl,e⟩:=k;dsimp only;rw [Λ (by grind),aZ];grind};simp_all
theorem xY{t a:Ζ}(m:q.aM<=a)(h:a<=t)(o:∀n∈cq q w,∀u,a<=u->u<=t->bK q n u=bK q n t)(i:(cd q w t).2=Γ):(cd q w a).2=Γ:=by have Q:=hp.right;have p:=hq.now;have R:=hw.wall;have r:t<=1099511627776:=by{rcases yCo 1099511627776 t with g | g;{exfalso;have T:Ye 5000 q w t=Α ([],Ι):=by{unfold Ye;simp_all};grind [cd]};omega};obtain ⟨F,x,b,_,e⟩:=yd (by omega) hq hp hw (show q.aM<=t by omega) r;obtain ⟨G,y,d,_,U⟩:=yd (by omega) hq hp hw m (by omega);have w1:cd q w t=xQ F (cq q w) w.aN w.aA:=by{grind [cd]};have w2:cd q w a=xQ G (cq q w) w.aN w.aA:=by{grind [cd]};rw[w1] at i;rw[w2];obtain ⟨z,A⟩:=m_.1 i;refine m_.2 ⟨z,yCt A (Hz b d hw.need λn hn c=>?_)⟩;have nb:=b.node n hn;obtain ⟨E,_,K⟩:=qL (F:=F) nb.1 nb.2;obtain ⟨M,_,N⟩:=qL (F:=G) nb.1 (by grind [DV.len]);have f:=x.low _ E;have k:=y.low _ M;rw[yCf nb.1] at f k;rw[K,N];obtain ⟨u,v,O,W,P,ev⟩:=k.cn c;rw[<-ev,P];by_cases g:u<t;{rw[o n hn u O (by omega)];exact f.le t _ (Ic _) (by omega) rfl c};exact f.le u _ (by omega) (by omega) rfl c
theorem FO{t:Ζ}(a:(cd q w t).2=Γ):t<=1099511627776:=by rcases yCo 1099511627776 t with g | g;{exfalso;have b:Ye 5000 q w t=Α ([],Ι):=by{unfold Ye;simp_all};grind [cd]};omega
theorem PY:∃r,zaN 5000 nodes w.Part w.aN w.aA w.aR q.aM q.S.aH=Α r/\zaI 5000 q w=Α r/\(∃T,Ck q T/\tE q w T r):=by obtain ⟨r,e,T,N,σ⟩:=Ya hL hq hp hw;obtain ⟨Z,e',v,i,d⟩:=TF hL hq hp hw;obtain ⟨ep,hm⟩:=iq hw;have kp:=hq.spec.parts.ok _ hm;have aa:=hp.len;have O:=IM hL hq hp hw i;have f:∀t∈T,(cd q w t).2=Γ->∃h∈v,h<=t/\(cd q w h).2=Γ:=λt P Q=>by{have A:=(N.mem t).1 P;obtain ⟨x,k,E,m,R⟩:=qV v (a:=q.aM) A.1;have U:x∈v:=by{grind};refine ⟨x,U,m,xY hL hq hp hw E m (λn hn u u1 u2=>?_) Q⟩;have nb:=kp.2.mem n hn;have hk:n.toNat<nodes.length:=by{omega};have v1:=hp.val n.toNat hk u (by omega);have v2:=hp.val n.toNat hk t A.1;rw[yCf nb.1] at v1 v2;obtain ⟨s,s1,s2,W,s4⟩:=v2;have sx:s.At<=x:=R _ ((i.mem _).2 ⟨n,hn,s,by simp_all,rfl⟩) s2;exact v1.DD (hp.cn.each _ hk).1 ⟨s,s1,by omega,λs' o G=>W s' o (by omega),s4⟩};have g:∀t∈v,(cd q w t).2=Γ->∃h∈T,h<=t/\(cd q w h).2=Γ:=λt P Q=>by{have A:=O.2 t P;obtain ⟨x,k,E,m,R⟩:=qV T (a:=q.aM) A;have U:x∈T:=by{rcases k with k | k;{rw[k];exact (N.mem _).2 ⟨Ic _,.inl rfl⟩};omega};refine ⟨x,U,m,xY hL hq hp hw E m (λn hn u u1 u2=>?_) Q⟩;have c:∀y,x<=y->y<=t->bK q n y=bK q n x:=λy y1 y2=>pQ E y1 λz z1 z2 z3=>by{have:=R z ((N.mem z).2 ⟨z1,z2⟩) (by omega);omega};simp_all};have:Z=r:=by{obtain ⟨p,b⟩:=r;obtain ⟨X,b'⟩:=Z;cases b with|true=>{obtain ⟨o,G,h3,h4,h5⟩:=σ.Xq rfl;dsimp only at o G h3 h4 h5;obtain ⟨h,t1,t2,t3⟩:=f _ o G;cases b' with|true=>obtain ⟨K,M,g3,g4,g5⟩:=d.Xq rfl;dsimp only at K M g3 g4 g5;obtain ⟨s',s1,s2,W⟩:=g _ K M;have:=g3 _ t1 t3;have:=h3 _ s1 W;have ea:X.At=p.At:=by{omega};have:X=p:=by{obtain ⟨a1,a2,a3⟩:=p;obtain ⟨b1,b2,b3⟩:=X;simp_all};rw[this]|false=>have:=(d.no rfl).1 _ t1;simp_all}|false=>obtain ⟨o,G⟩:=σ.no rfl;cases b' with|true=>obtain ⟨K,M,_⟩:=d.Xq rfl;grind|false=>obtain ⟨K,M⟩:=d.no rfl;simp_all};grind
end
def eW(u:qG):kg:={ aA:=u.aA,aj:=u.aj,pL:=u.To }
structure Zn (q:eY):Prop where
 ref:jD q
 lo:∀u∈q.L,u.bT=q.aM/\q.aM<u.To
 caps:∀(i k:Ε)(h:k<q.S.aq.length)(t:Ζ)(c:Ε),cmp c (a_ (q.L.take i) k t)<=cmp c q.S.aq[k]
 live:∀b∈q.ay,q.aM<b.To
 tW:∀b∈q.ay,∀t,b.bT<=t->q.aM<=t->a_ q.L b.Node t=ca
def Ra{q:eY}(h:Zn q):iY 5000 (q.L.map eW) q.aM q.S.aq.length=Α Γ:=by have o:=h.ref.xR;unfold iY;refine bR.eq (xE (q.L.map eW) (λ_ _=>True) (λi f hi _ p=>?_) (λf r=>?_) (by grind));{have a:i<q.L.length:=by{simp_all};have u:=h.ref.used _ (bG a);have t:=h.lo _ (bG a);have e:(q.L.map eW)[i]=eW q.L[i]:=Uj ..;obtain ⟨v,b,d⟩:=pZ (eW q.L[i]).aj q.S.aq.length u.xR;have:=d.2 u.shares;subst this;obtain ⟨x,g,k⟩:=XZ (eW q.L[i]).aA;have:=k.2 u.need;subst this;rw[Λ (cP hi),bZ hi,e,aw,dQ,b,aw,Κ (by simp),g,aw];have m:Θ ((eW q.L[i]).pL<=q.aM)=Ι:=by{show Θ (q.L[i].To<=q.aM)=Ι;simp_all};have n:Θ ((eW q.L[i]).pL > 281474976710656)=Ι:=by{show Θ (q.L[i].To > _)=Ι;have:=u.hi;simp_all};rw[m,n];dsimp only;rw[Κ (by simp),bY (show i<1000000 by omega)];simp_all};rw[Κ (by simp),aZ]
def Ox{now:Ζ}{r:aI}(h:0<=now/\now<=1099511627776)(a:aQ r):dW [({ At:=now,cI:=r }:bV)]:=⟨by simp,λi hi=>by grind,λs hs=>by grind⟩
def WI{now:Ζ}{r:aI}(h:0<=now/\now<=1099511627776)(a:aQ r):xJ 5000 now r=Α ([{ At:=now,cI:=r }],0):=by unfold xJ;rw[jZ (by simp) (Ox h a),aw,Κ (by simp)]
def MW{q:eY}(k:bn q.S){i:Ε}(hi:i<q.S.aq.length):aQ q.S.aq[i]:=k.nodes.ok _ (bG hi)
def NV{q:eY}(h:Zn q):bR (zfl 5000 (q.L.map eW) q.S q.aM q.ay) λr=>∃nodes,r=.inr (nodes,q.aM,q.S.aH)/\PR nodes q (1+2 * (q.L.length+q.ay.length)):=by have hq:=h.ref;have hs:=gJ hq.spec;have nn:=hq.spec.nodes.hi;have ad:=hq.now;have hf:=hq.xR;have hb:=hq.cy.len;unfold zfl;obtain ⟨rb,eb,av⟩:=FF q.ay q.S.aq.length (by omega);have:=av.2 hq.cy;subst this;rw[dQ,Dg hs hq.spec,aw,Κ (by simp;omega),eb,aw,Κ (by simp),Ra h,aw];dsimp only;rw[Κ (by simp)];have ak:=hs.parts;refine gR q.S.aH.length (λi x=>x=((i:Ζ),q.S.aH.take i)) (λi x f hi G σ=>?_) (λx f G=>?_) rfl (by omega);{subst G;have pl:=hs.part _ (bG hi);dsimp only;rw[Λ (cP hi),bZ hi,aw];unfold za5;rw[vm (by omega),aw,sF (by simp;omega),aw,bY (show i<1000000 by omega)];exact σ _ (by rw[HV hi])};subst G;dsimp only;rw[Κ (by simp),tU];refine gR q.S.aq.length (λi x=>x.1=(i:Ζ)/\x.2=(q.S.aq.take i).map λr=>[({ At:=q.aM,cI:=r }:bV)]) (λi x f hi G σ=>?_) (λx f G=>?_) ⟨rfl,rfl⟩ (by omega);{obtain ⟨y,M⟩:=x;obtain ⟨rfl,rfl⟩:=G;dsimp only;rw[Λ (cP hi),bZ hi,aw,WI ad (MW hq.spec hi),aw,Κ (by simp),sF (by simp;omega),aw,bY (show i<1000000 by omega)];exact σ _ ⟨rfl,by rw[HV hi,yBG];rfl⟩};obtain ⟨y,M0⟩:=x;obtain ⟨rfl,rfl⟩:=G;dsimp only;rw[Κ (by simp),tU];have af:∀(r:aI)(t:Ζ),q.aM<=t->zZ [({ At:=q.aM,cI:=r }:bV)] t r:=λr t K=>⟨_,yk.2 rfl,K,λs' A _=>by rw[yk.1 A];exact Ic _,rfl⟩;refine gR (q.L.map eW).length (λi x=>x.1=(i:Ζ)/\x.2.length=q.S.aq.length/\Fm x.2 q.aM (1+2 * i)/\∀(k:Ε)(A:k<x.2.length)(U:k<q.S.aq.length)(t:Ζ),q.aM<=t->zZ x.2[k] t (fG q.S.aq[k] (a_ (q.L.take i) k t))) (λi x f hi G σ=>?_) (λx f G=>?_) ⟨rfl,by simp,⟨λk hk=>?_,λk hk A=>by simp⟩,λk A U t K=>?_⟩ (by simp;omega);{obtain ⟨y,M⟩:=x;obtain ⟨rfl,N,o,E⟩:=G;dsimp only at N o E ⊢;have Z:i<q.L.length:=by{simpa using hi};have u:=hq.used _ (bG Z);have lo:=h.lo _ (bG Z);have e:(q.L.map eW)[i]=eW q.L[i]:=Uj ..;have st:∀k t,a_ (q.L.take (i+1)) k t=De (a_ (q.L.take i) k t) (ki q.L[i] k t):=λk t=>by{rw[HV Z,nE]};rw[Λ (cP hi),bZ hi,e,aw];refine (DK (by omega) o (by omega) (a:=q.aM) (b:=(eW q.L[i]).pL) (l:=(eW q.L[i]).aj) (need:=(eW q.L[i]).aA) (by rw[N];exact u.shares) u.xR u.need (Ic _) (show q.aM<q.L[i].To by omega) u.hi (λk hk t v h1 U hv c=>?_)).bind λr aa=>?_;{have O:k<q.S.aq.length:=by{omega};have ev:=hv.DD (o.each k hk).1 (E k hk O t h1);have cp:=h.caps (i+1) k O t c;rw[st,xX] at cp;have ea:ki q.L[i] k t=mulR (dD q.L[i].aj k) q.L[i].aA:=by{unfold ki;rw[Λ ⟨by omega,U⟩]};rw[ea] at cp;rw[ev,Dz];show cmp c (mulR (dD q.L[i].aj k) q.L[i].aA)<=_;omega};obtain ⟨r1,r2,r3⟩:=aa;rw[Κ (by simp[r1]),bY (show i<1000000 by omega)];refine σ _ ⟨rfl,by dsimp only;omega,⟨λk hk=>?_,λk hk A=>?_⟩,λk A U t K=>?_⟩;{have T:=r3 k (by dsimp only at hk;omega) hk;exact ⟨T.ok,by have:=T.len;have:=(o.each k (by dsimp only at hk;omega)).2;dsimp only at *;omega⟩};{have T:=r3 k (by dsimp only at hk;omega) hk;have n0:=(o.each k (by dsimp only at hk;omega)).1.ne;dsimp only;rw[T.first n0 A,o.first k (by dsimp only at hk;omega) n0]};have T:=r3 k (by dsimp only at A;omega) A;have:=T.val t _ (E k (by omega) U t K);dsimp only;rw[st];by_cases g:t<q.L[i].To;{have ea:ki q.L[i] k t=mulR (dD q.L[i].aj k) q.L[i].aA:=by{unfold ki;rw[Λ ⟨by omega,g⟩]};rw[Λ ⟨K,g⟩] at this;rw[ea,<-IR];exact this};have ea:ki q.L[i] k t=ca:=by{unfold ki;rw[Κ λW=>g W.2]};rw[Κ (show ¬(q.aM<=t/\t<(eW q.L[i]).pL) from λW=>g W.2)] at this;rw[ea,JM];exact this};{obtain ⟨y,M⟩:=x;obtain ⟨rfl,N,o,E⟩:=G;dsimp only at N o E ⊢;rw[Κ (by simp)];rw[xM,tU] at E;rw[xM] at o;refine gR q.ay.length (λi x=>x.1=(i:Ζ)/\x.2.length=q.S.aq.length/\Fm x.2 q.aM (1+2 * (q.L.length+i))/\∀(k:Ε)(A:k<x.2.length)(t:Ζ),q.aM<=t->zZ x.2[k] t (bK { q with ay:=q.ay.take i } k t)) (λi x f hi G σ=>?_) (λx f G=>?_) ⟨rfl,N,by simpa using o,λk A t K=>?_⟩ (by omega);{obtain ⟨y,M⟩:=x;obtain ⟨rfl,N,o,E⟩:=G;dsimp only at N o E ⊢;have bk:=hq.cy.each i hi;have lv:=h.live _ (bG hi);have nd:=bk.one.node;obtain ⟨n,en⟩:∃n:Ε,q.ay[i].Node=(n:Ζ):=⟨q.ay[i].Node.toNat,by omega⟩;have hn:n<M.length:=by{omega};have ab:n<q.S.aq.length:=by{omega};obtain ⟨sk,lk⟩:=o.each n hn;have f0:=o.first n hn sk.ne;rw[Λ (cP hi),dQ,bZ hi,aw,Κ (by simp;omega),en,bZ hn,aw,bZ ab,aw];have nv:=MW hq.spec ab;have an:eV q.S.aq (n:Ζ)=q.S.aq[n]:=Bv ab;have X:∀t,q.aM<=t->q.ay[i].bT<=t->t<q.ay[i].To->bK { q with ay:=q.ay.take i } n t=q.S.aq[n]:=λt h1 U h3=>by{unfold bK;rw[Κ];{have:=h.tW _ (bG hi) t U h1;rw[en] at this;show fG (eV q.S.aq n) (a_ q.L n t)=_;rw[this,an];exact eJ λc=>by rw[Dz,QX];omega};rintro ⟨b,Q,m1,m2,m3⟩;obtain ⟨j,hj,rfl⟩:=OF.1 Q;rw[DU] at hj;simp only[Tx] at m1 m2 m3;refine (bk.up j (by omega) (by omega)).2 ⟨by rw[m1,en],by omega,bk.one.span,by omega,by omega⟩};have ax:=bk.one.lo;have a0:=bk.one.hi;have sp:=bk.one.span;have mx:∀P:Ζ->Prop,P (if q.aM > q.ay[i].bT then q.aM else q.ay[i].bT)=P (max q.aM q.ay[i].bT):=λP=>by{congr 1;split <;> omega};rw[show (if q.aM > q.ay[i].bT then q.aM else q.ay[i].bT)=max q.aM q.ay[i].bT by split <;> omega];refine (zI (by omega) sk nv (by omega) (show max q.aM q.ay[i].bT<q.ay[i].To by omega) (by omega) λt v h1 U hv c=>?_).bind λr aa=>?_;{have ev:=hv.DD sk (E n hn t (by omega));rw[ev,X t (by omega) (by omega) U];exact Ic _};obtain ⟨r1,T⟩:=aa;rw[Κ (by simp[r1]),lm,bY (show i<1000000 by omega),Ζ.toNat_natCast];refine σ _ ⟨rfl,by simp[N],⟨λk hk=>?_,λk hk A=>?_⟩,λk A t K=>?_⟩;{by_cases g:n=k;{subst g;have e:(M.set n r.1)[n]'(by simpa using hn)=r.1:=yBI _;show dW (M.set n r.1)[n]/\(M.set n r.1)[n].length<=_;rw[e];exact ⟨T.ok,by have:=T.len;omega⟩};have d:k<M.length:=by{simpa using hk};have e:(M.set n r.1)[k]'(by simpa using d)=M[k]:=yBC g _;show dW (M.set n r.1)[k]/\(M.set n r.1)[k].length<=_;rw[e];have:=o.each k d;exact ⟨this.1,by have:=this.2;omega⟩};{by_cases g:n=k;{subst g;have e:(M.set n r.1)[n]'(by simpa using hn)=r.1:=yBI _;simp only[e];rw[T.first sk.ne T.ok.ne,f0]};have d:k<M.length:=by{simpa using hk};have e:(M.set n r.1)[k]'(by simpa using d)=M[k]:=yBC g _;simp only[e];exact o.first k d (o.each k d).1.ne};have d:k<M.length:=by{simpa using A};have p:Fh (q.ay.take (i+1)) k t↔Fh (q.ay.take i) k t\/(q.ay[i].Node=(k:Ζ)/\q.ay[i].bT<=t/\t<q.ay[i].To):=by{unfold Fh;rw[HV hi];constructor;{rintro ⟨b,Q,m⟩;rcases jI.1 Q with g | g;{exact .inl ⟨b,g,m⟩};rw[yk.1 g] at m;exact .inr m};rintro (⟨b,g,m⟩ | m);{exact ⟨b,yBM _ g,m⟩};exact ⟨_,yBH _ (yk.2 rfl),m⟩};by_cases g:n=k;{subst g;have e:(M.set n r.1)[n]'(by simpa using hn)=r.1:=yBI _;simp only[e];have VG:=E n hn t K;have new:=T.val t _ VG;by_cases W:q.ay[i].bT<=t/\t<q.ay[i].To;{rw[Λ ⟨by omega,W.2⟩,X t K W.1 W.2] at new;have:bK { q with ay:=q.ay.take (i+1) } n t=ca:=by{unfold bK;rw[Λ];exact p.2 (.inr ⟨en,W⟩)};rw[this];have z:fG q.S.aq[n] q.S.aq[n]=ca:=eJ λc=>by{rw[Dz,QX];omega};rw[z] at new;exact new};rw[Κ λR=>W ⟨by omega,R.2⟩] at new;have:bK { q with ay:=q.ay.take (i+1) } n t=bK { q with ay:=q.ay.take i } n t:=by{unfold bK;by_cases R:Fh (q.ay.take i) n t;{rw[Λ (show Fh (q.ay.take (i+1)) n t from p.2 (.inl R)),Λ (show Fh (q.ay.take i) n t from R)]};rw[Κ (show ¬Fh (q.ay.take (i+1)) n t from λg4=>(p.1 g4).elim R λg5=>W g5.2),Κ (show ¬Fh (q.ay.take i) n t from R)]};rw[this];exact new};have e:(M.set n r.1)[k]'(by simpa using d)=M[k]:=yBC g _;simp only[e];have:bK { q with ay:=q.ay.take (i+1) } k t=bK { q with ay:=q.ay.take i } k t:=by{unfold bK;by_cases R:Fh (q.ay.take i) k t;{rw[Λ (show Fh (q.ay.take (i+1)) k t from p.2 (.inl R)),Λ (show Fh (q.ay.take i) k t from R)]};rw[Κ (show ¬Fh (q.ay.take (i+1)) k t from λg4=>(p.1 g4).elim R λg5=>by rw[en] at g5;omega),Κ (show ¬Fh (q.ay.take i) k t from R)]};rw[this];exact E k d t K};{obtain ⟨y,M⟩:=x;obtain ⟨rfl,N,o,E⟩:=G;dsimp only at N o E ⊢;rw[Κ (by simp),aZ];rw[tU] at E;exact ⟨M,rfl,N,o,E⟩};have e:bK { q with ay:=q.ay.take 0 } k t=fG (eV q.S.aq k) (a_ q.L k t):=by{unfold bK;rw[Κ];rintro ⟨b,Q,_⟩;simp at Q};have O:k<q.S.aq.length:=by{dsimp only at A;omega};rw[e,Bv O];exact E k A O t K};{have d:k<q.S.aq.length:=by{simpa using hk};have e:((q.S.aq).map λr=>[({ At:=q.aM,cI:=r }:bV)])[k]'(by simpa using d)=[{ At:=q.aM,cI:=q.S.aq[k] }]:=Uj ..;simp only[e];exact ⟨Ox ad (MW hq.spec d),by simp⟩};have e:((q.S.aq).map λr=>[({ At:=q.aM,cI:=r }:bV)])[k]'(by simpa using U)=[{ At:=q.aM,cI:=q.S.aq[k] }]:=Uj ..;simp only[e];have z:fG q.S.aq[k] (a_ (q.L.take 0) k t)=q.S.aq[k]:=eJ λc=>by{rw[Dz];simp[a_,QX]};rw[z];exact af _ t K
def zeroJ:aJ:={ Id:=0,bJ:=0,Queue:=0,aN:=0,aA:={ bQ:=0,Mem:=0,bU:=0,bX:=0 },aR:=0,aE:=[],State:=0,Ok:=Ι,cO:=Ι,aL:=0,cJ:=0,Start:=0,End:=0,Array:=0 }
def aaf{l:Β aJ}(hl:l.length<=300)(hs:bW l)(id:Ζ):bR (zaQ 5000 l id) λr=>(r.2=Γ↔∃j∈l,j.Id=id)/\(r.2=Γ->At l id r.1):=by unfold zaQ;rw[kG];refine half hl hs id (λj=>Α (Θ (j.Id<id))) (λj hj=>rfl) (λi=>Α i) (λi hi d g=>?_) _ (λf x=>?_);{rw[aZ,bB];refine ⟨λh=>?_,λh=>?_⟩;{simp only[bH] at h;have a:i<l.length:=by{omega};rw[bZ a,aw,aZ];simp only[ot];refine ⟨⟨λe=>⟨_,bG a,e⟩,λ⟨j,b,e⟩=>?_⟩,λe=>⟨by omega,by omega,by simp_all⟩⟩;obtain ⟨k,hk,rfl⟩:=jb b;rcases Yj k i with q | q | q;{grind};{simp_all};have:=hs.lt q hk;grind};simp only[bH] at h;simp only[aZ,cf,HU,false_implies,Nz];grind [Β.getElem_of_mem]};grind
section
variable{l:Β aJ}
def Ku(hl:l.length<=300)(hs:bW l){k:Ε}(hk:k<l.length):zaQ 5000 l l[k].Id=Α ((k:Ζ),Γ):=by obtain ⟨⟨r,b⟩,e,d,f⟩:=aaf hl hs l[k].Id;have hb:b=Γ:=d.2 ⟨_,bG hk,rfl⟩;subst hb;have a:At l l[k].Id r:=f rfl;have:=hs.inj a.hi hk a.is;have:=a.lo;rw[e,show r=(k:Ζ) by omega]
def wH{j:aJ}(h:du j):zfk 5000 j=Α Γ:=by obtain ⟨r,e,q⟩:=Du j;rw[e,q.2 h]
def TS(hs:bW l){k:Ε}(hk:k<l.length){j:aJ}(d:j.Id=l[k].Id):bW (l.set k j):=by have a:∀i (h:i<l.length),((l.set k j)[i]'(by simp_all)).Id=l[i].Id:=λi h=>by{grind};intro i hi;have b:i+1<l.length:=by{simp_all};rw[a i (by omega),a (i+1) b];exact hs i b
end
def KY(x:Ζ):Ζ:=if x≥281474976710656 then 0 else x+1
def Ql{x:Ζ}(h:0<=x):kK 5000 x=Α (KY x):=by unfold kK KY;simp only[bH];grind [wr]
def nY(Q:Β Ζ)(q:Ζ):Β Ζ:=if 0<=q/\q<Q.length then Q.set q.toNat (KY (Q[q.toNat]?.getD 0)) else Q
theorem Sl(Q:Β Ζ)(q:Ζ):(nY Q q).length=Q.length:=by grind [nY]
def kA(Q:Β Ζ):Prop:=∀x∈Q,0<=x/\x<=281474976710656
def Vh{x:Ζ}(h:0<=x/\x<=281474976710656):0<=KY x/\KY x<=281474976710656:=by grind [KY]
theorem Ko{Q:Β Ζ}(h:kA Q)(q:Ζ):kA (nY Q q):=by unfold nY;split;{rename_i hq;have hl:q.toNat<Q.length:=by{omega};intro x a;rcases yCz a with e | e;{exact h x e};subst e;rw[eI hl];exact Vh (h _ (bG hl))};exact h
def OE{Q:Β Ζ}(h:kA Q)(q:Ζ):zbm 5000 Q q=Α (nY Q q):=by unfold zbm nY;by_cases hq:0<=q/\q<Q.length;{rw[Λ (by simp_all),Λ hq];obtain ⟨a,e⟩:=Dc (l:=Q) hq.1 hq.2;rw[e,aw,Ql (h _ (bG a)).1,aw,aw,eI a];rfl};grind
def jY(Q:Β Ζ)(a b:Ζ):Β Ζ:=if b=a then nY Q a else nY (nY Q a) b
def Ou(Q:Β Ζ)(a b:Ζ):(jY Q a b).length=Q.length:=by grind [jY,Sl]
def SZ{Q:Β Ζ}(h:kA Q)(a b:Ζ):kA (jY Q a b):=by grind [jY,Ko]
section
variable{l:Β aJ}
def Gw(x:Ζ):Prop:=x=1\/x=2
instance (x:Ζ):Decidable (Gw x):=by unfold Gw;infer_instance
theorem RZ(x:Ζ):jU 5000 x=Α (Θ (Gw x)):=by unfold jU;congr 1;rw[Μ.eq_iff_iff];rw[bH];simp only[gV,ot,Gw]
end
structure Vf (st:bC):Prop where
 aT:st.ah.length<=300
 after:∀j∈st.ah,j.aE.length<=10
 cj:st.ai.length<=300
 asc:Ct st.ai
 ids:∀a∈st.ai,0<=a.aU/\a.aU<=1048576
 sh:∀a∈st.ai,a.aj.length<=300
 cy:st.ay.length<=20
 use:st.dx.length<=20
 stamps:st.au.am.length<=20
def Cz{s:aW}{st:bC}(hw:lw s st)(q:aP s st):Vf st:=⟨hw.aT,hw.after,hw.cj,DE q,JJ q,hw.sh,hw.cy,hw.use,hw.stamps⟩
def Pd{st:bC}(h:Vf st) : UT 5000 st.au.am st.ah (st.ai.map λa=>(a.aU,a)) st.aM st.Next st.cw st.ay st.dx st.au.aq=Α st:=by have hl:=h.aT;have hb:=h.cy;have b:=h.use;have hs:=h.stamps;unfold UT;rw[Pm (by omega) h.after,aw,show bp 5000 (st.ai.map λa=>(a.aU,a))=Α st.ai from Gk h.cj h.asc h.ids h.sh,aw,Ed (by omega),aw,sJ (by omega),aw,show zcm 5000 st.au.am=Α st.au.am from vm (by omega),aw]
def Rb{st:bC}(h:Vf st):zcb 5000 st st=Α Γ:=by have a:=h.aT;have b:=h.use;have d:=h.stamps;have e:=h.cy;unfold zcb;rw[Λ (by simp),JC _ (by omega) h.after,aw,Λ rfl,DX _ h.cj h.sh,aw,Λ rfl,Gg _ (by omega),aw,Λ rfl,xV _ (by omega),aw,Λ rfl,xV _ (by omega),aw];simp
section
variable{l:Β aJ}
def get_some(hl:l.length<=300)(hs:bW l){k:Ε}(hk:k<l.length)(a:l[k].aE.length<=1000):zcj 5000 l l[k].Id=Α (l[k],Γ):=by unfold zcj;rw[Ku hl hs hk,aw];simp only[QP,cf,cD];rw[bZ hk,aw,Fa (by omega),aw]
def job_some(hl:l.length<=300)(hs:bW l){k:Ε}(hk:k<l.length)(a:l[k].aE.length<=1000):zda 5000 l l[k].Id=Α (l[k],Γ):=by unfold zda;rw[get_some hl hs hk a,aw]
end
def Zj{l:Β aJ}(hl:l.length<=300)(hs:bW l){i:Ε}(hi:i<l.length):QW 5000 l l[i].Id=Α (i:Ζ):=by obtain ⟨r,e,b,d,_⟩:=kP hl l[i].Id;have f:0<=r:=b.2 ⟨_,bG hi,rfl⟩;have a:=d f;have:=hs.inj a.hi hi a.is;grind
def Qb(st:bC)(id:Ζ):aJ:=(st.ah.find? λj=>j.Id == id).getD zeroJ
def FG{st:bC}(hs:bW st.ah){i:Ε}(hi:i<st.ah.length):Qb st st.ah[i].Id=st.ah[i]:=by unfold Qb;obtain ⟨j,e⟩:∃j,st.ah.find? (λj=>j.Id == st.ah[i].Id)=Α j:=by{cases h:st.ah.find? (λj=>j.Id == st.ah[i].Id) with|some j=>simp_all|none=>have:=Β.find?_eq_none.1 h _ (bG hi);simp_all};rw[e,UJ];have a:=Β.find?_some e;simp only[ot] at a;obtain ⟨k,hk,rfl⟩:=jb (yBF e);have:=hs.inj hk hi a;simp_all
def od(st:bC)(a:bL):Ζ:=(Qb st a.aU).Start+(Qb st a.aU).aR
def cT(st:bC)(a:bL):qG:={ bT:=st.aM,To:=od st a,aA:=a.aA,aj:=a.aj }
def fw(s:aW)(st:bC):eY:={ S:=s,aM:=st.aM,L:=st.ai.map (cT st),ay:=st.ay }
section
variable{s:aW}{st:bC}(hw:lw s st)(q:aP s st)
include hw q
theorem np{a:bL}(b:a∈st.ai):∃i,∃h:i<st.ah.length,st.ah[i].Id=a.aU/\fA s st st.ah[i] a/\ue st.ah[i]=Γ/\Qb st a.aU=st.ah[i]:=by obtain ⟨j,hj,P⟩:=fi.mem q.cj a b;obtain ⟨d,e⟩:=Kk.1 hj;obtain ⟨i,hi,rfl⟩:=jb d;exact ⟨i,hi,P.Fe.symm,P,e,by rw[P.Fe];exact FG q.aT.bq hi⟩
theorem Gu{a:bL}(b:a∈st.ai):st.aM<od st a/\od st a<=st.aM+65536:=by obtain ⟨i,hi,_,P,_,e⟩:=np hw q b;have j:=q.aT.each _ (bG hi);have d:=P.now;have f:=j.start;have g:=j.ok.wall;grind [od]
omit hw q in
theorem Pu{H:Β aJ}{A:Β bL}{F:Β aI}(h:fi s st H A F):A.length=H.length:=by
 induction H generalizing A F with
 |nil=>rw[show A=[] from h];rfl
 |cons j H ih=>obtain ⟨b,a,rfl,_,_,d⟩:=h;grind
theorem zfV:st.ai.length<=st.ah.length:=by rw[Pu q.cj];grind
omit hw q in
theorem xP(L:Β qG)(k t:Ζ)(c:Ε):cmp c (a_ L k t)=(L.map λu=>cmp c (ki u k t)).sum:=by
 have:∀(L:Β qG)(r:aI),cmp c (L.foldl (λr u=>De r (ki u k t)) r)=cmp c r+(L.map λu=>cmp c (ki u k t)).sum:=by
  intro L;induction L with
  |nil=>simp_all
  |cons u L ih=>grind [xX]
 grind [a_.eq_1,QX]
omit hw q in
theorem caps_of{H:Β aJ}{A:Β bL}{F:Β aI}(h:fi s st H A F)(g:∀r∈F,aQ r)(a:∀j∈H,aQ j.aA)(k:Ε)(hk:k<F.length)(t:Ζ)(c:Ε):((A.map (cT st)).map λu=>cmp c (ki u k t)).sum<=cmp c F[k]:=by
 induction H generalizing A F with
 |nil=>
  rw[show A=[] from h]
  grind [yc,Β.getElem_mem]
 |cons j H ih=>
  obtain ⟨b,m,rfl,P,d,e⟩:=h;have hl:k<(lV F b).length:=by grind [zfm]
  have:=ih e (vy d) (λi hi=>a i (nk _ hi)) hl;rw[ol hl] at this;unfold qW at this;rw[Dz] at this;rw[sv,sv,yCw];have le:cmp c (ki (cT st b) k t)<=cmp c (mulR (dD b.aj k) b.aA):=by
   unfold ki;split
   ·exact Ic _
   ·rw[QX];rw[CD];have o:=tx (l:=b.aj) (λx f=>by have:=(P.gI.shares.mem x f);omega) k;rw[P.need];exact yBX o (yc.1 (a j (rP ..)) c).1
  omega
theorem Ol:∀u∈(fw s st).L,sC u s.aq.length:=λu f=>by obtain ⟨a,d,rfl⟩:=jp.1 f;obtain ⟨i,hi,_,P,_,e⟩:=np hw q d;have j:=q.aT.each _ (bG hi);have b:=Gu hw q d;have n:=q.nums.now;refine ⟨P.gI.shares,hw.sh a d,?_,n.1,?_⟩;{show aQ a.aA;rw[P.need];exact j.ok.need};show od st a<=_;omega
theorem Fg(a:st.ah.length<=30):jD (fw s st):={spec:=q.spec,now:=q.nums.now,cy:=q.gu.cy,used:=Ol hw q,xR:=by have:=zfV hw q;show (st.ai.map (cT st)).length<=100;grind }
theorem Zf(f:st.ah.length<=30):Zn (fw s st):={ref:=Fg hw q f,lo:=λu hu=>by obtain ⟨a,d,rfl⟩:=jp.1 hu;exact ⟨rfl,(Gu hw q d).1⟩,caps:=λi k hk t c=>by have n:=caps_of q.cj q.spec.nodes.ok (λj hj=>(q.aT.each j (Kk.1 hj).1).ok.need) k hk t c;rw[xP];show ((((st.ai.map (cT st)).take i)).map λu=>cmp c (ki u k t)).sum<=cmp c s.aq[k];have o:((st.ai.map (cT st)).map λu=>cmp c (ki u k t)).sum=(((st.ai.map (cT st)).take i).map λu=>cmp c (ki u k t)).sum+(((st.ai.map (cT st)).drop i).map λu=>cmp c (ki u k t)).sum:=by{grind [Β.take_append_drop]};have K:0<=(((st.ai.map (cT st)).drop i).map λu=>cmp c (ki u k t)).sum:=by{have:∀M:Β qG,(∀u∈M,sC u s.aq.length)->0<=(M.map λu=>cmp c (ki u k t)).sum:=by{intro M;induction M with|nil=>simp_all|cons u M ih=>intro h;have:=ih λv p=>h v (nk _ p);have:=LS (h u (rP ..)) k t c;grind};exact this _ λu hu=>Ol hw q u (yBq hu)};omega,live:=λb hb=>(q.gu.live b hb).2,tW:=λb hb t n o=>eJ λc=>by rw[xP,QX];show ((st.ai.map (cT st)).map λu=>cmp c (ki u b.Node t)).sum=0;have:∀x∈(st.ai.map (cT st)).map λu=>cmp c (ki u b.Node t),x=0:=λx r=>by{obtain ⟨u,hu,rfl⟩:=jp.1 r;obtain ⟨a,d,rfl⟩:=jp.1 hu;obtain ⟨i,hi,A,P,_,e⟩:=np hw q d;by_cases g:∃y∈a.aj,y.Node=b.Node;{obtain ⟨y,E,G⟩:=g;have:=q.gu.tW a d _ (bG hi) A y E b hb G.symm;unfold ki;rw[Κ,QX];show ¬(st.aM<=t/\t<od st a);grind [od]};have z:dD a.aj b.Node=0:=by{grind [Bz]};unfold ki;split;{show cmp c (mulR (dD a.aj b.Node) a.aA)=0;grind [CD]};grind [QX]};have m:∀M:Β Ζ,(∀x∈M,x=0)->M.sum=0:=by{intro M;induction M with|nil=>simp_all|cons x M ih=>simp_all};simp_all }
theorem qK:zbR 5000 s st=Α (fw s st):=by have hl:=hw.aT;have h:=hw.cj;unfold zbR;refine bR.eq (gR st.ai.length (λi x=>x=((i:Ζ),s.aq,s.aH,s.am,s.aS,s.ae.eH,s.ae.ce,s.ae.dE,s.ae.bg,s.bE,s.Mode,s.ah,s.fD,s.aF,s.aV,s.cK,s.In,s.Out,s.bF,st.aM,(st.ai.take i).map (cT st),st.ay)) (λi x f hi a b=>?_) (λx f a=>?_) rfl (by omega));{subst a;have d:=bG hi;obtain ⟨k,hk,g,P,_,e⟩:=np hw q d;have j:=q.aT.each _ (bG hk);have m:=j.ok.wall;have n:=j.ok.start;dsimp only;rw[Λ (cP hi),bZ hi,aw,<-g,Zj hl q.aT.bq hk,aw,bZ hk,aw,wr (x:=_+_) (by omega) (by omega)];unfold zbG;dsimp only;rw[vm (by grind),aw,sF (by grind),aw,aw,bY (show i<1000000 by omega)];refine b _ ?_;rw[HV hi,yBG];have:cT st st.ai[i]={ bT:=st.aM,To:=st.ah[k].Start+st.ah[k].aR,aA:=st.ai[i].aA,aj:=st.ai[i].aj }:=by{grind [cT,od]};simp_all};subst a;dsimp only;rw[Κ (by simp),aZ,tU];rfl
theorem WE{i:Ε}(hi:i<st.ah.length)(h:ue st.ah[i]=Γ):xO 5000 st.ah[i]=Α (st.ah[i].Start+st.ah[i].aR):=by have j:=q.aT.each _ (bG hi);have a:=j.ok.wall;have b:=j.ok.start;unfold xO Rm;rw[dQ,wH j.ok,aw,Κ (by simp),aw];dsimp only;unfold ue at h;rw[h,Κ (by simp),wr (by omega) (by omega)]
theorem j_(b:st.ah.length<=30){g:Β (Ζ×bL)}(h:UT 5000 st.au.am st.ah g st.aM st.Next st.cw st.ay st.dx st.au.aq=Α st):∃nodes,zcX 5000 st.au.am st.ah g s.aq s.aH s.am s.aS s.ae.eH s.ae.ce s.ae.dE s.ae.bg s.bE s.Mode s.ah s.fD s.aF s.aV s.cK s.In s.Out s.bF st.aM st.Next st.cw st.ay st.dx st.au.aq=Α (.inr (nodes,st.aM,s.aH))/\PR nodes (fw s st) (1+2 * (st.ai.length+st.ay.length)):=by have hl:=hw.aT;have t:=hw.cj;obtain ⟨r,e,nodes,rfl,hp⟩:=NV (Zf hw q b);have m:(fw s st).L.length=st.ai.length:=xM ..;rw[m] at hp;refine ⟨nodes,?_,hp⟩;unfold zcX;rw[h,aw];have z:Ff ({ aA:=({ bQ:=0,Mem:=0,bU:=0,bX:=0 }:aI),aj:=[],pL:=0 }:kg) 0 (st.ai.length:Ζ)=Α []:=by{unfold Ff;grind};rw[z,aw];refine bR.eq (gR st.ai.length (λi x=>x=((i:Ζ),(st.ai.take i).map λa=>eW (cT st a))) (λi x f hi d n=>?_) (λx f d=>?_) rfl (by omega));{subst d;have o:=bG hi;obtain ⟨k,hk,p,P,hj,u⟩:=np hw q o;dsimp only;rw[Λ (cP hi),bZ hi,aw,<-p,job_some hl q.aT.bq hk (by have:=hw.after _ (bG hk);omega),aw,WE hw q hk hj,aw,sF (by grind),aw,bY (show i<1000000 by omega)];refine n _ ?_;rw[HV hi,yBG];have:eW (cT st st.ai[i])={ aA:=st.ai[i].aA,aj:=st.ai[i].aj,pL:=st.ah[k].Start+st.ah[k].aR }:=by{grind [eW,cT,od]};simp_all};subst d;dsimp only;rw[Κ (by simp),gD hw.spec,aw,tU];have:(st.ai.map λa=>eW (cT st a))=(fw s st).L.map eW:=by{show _=(st.ai.map (cT st)).map eW;simp_all};rw[this];have v:zfl 5000 ((fw s st).L.map eW) s st.aM st.ay=Α (.inr (nodes,st.aM,s.aH)):=e;grind [aZ]
end
def few30P(s:aW)(st:bC):bR (zc8 5000 s st) λr=>r=Γ->st.ah.length<=30:=by simp only[zc8,dQ];refine (few07 s).bind λr b=>?_;simp only[Υ,aZ,bB];refine ⟨by simp,λh=>?_⟩;refine (few17 st.ah).bind λd a=>?_;simp only[bB,aZ];refine ⟨by simp,λh=>?_⟩;simp only[gV,bH,not_or,Ζ.not_lt,gY,pC] at h;obtain ⟨⟨⟨⟨h,e⟩,g⟩,k⟩,m⟩:=h;have n:=a h;refine xE st.ai (λ_ q=>True) (λi f h _ b=>?_) (λf hq=>?_) (by omega);{simp only[cP h,Υ,bZ h,aw,bY (show i<1000000 by omega),bB,aZ,bH];simp_all};simp only[eQ,cf,cD,aZ];omega
def cG(s:aW)(j:aJ):Ch:={ Part:=((s.am[j.Queue.toNat]?).getD default).Part,aN:=j.aN,aA:=j.aA,aR:=j.aR }
def oU{s:aW}{j:aJ}(hq:0<=j.Queue/\j.Queue<s.am.length):∃h:j.Queue.toNat<s.am.length,aC s.am j.Queue=Α s.am[j.Queue.toNat]/\cG s j={ Part:=s.am[j.Queue.toNat].Part,aN:=j.aN,aA:=j.aA,aR:=j.aR }:=by grind [Dc,cG]
def gK{s:aW}{st:bC}{q:eY}(k:bn s)(eq:q.S=s){j:aJ}(h:d_ s st j):FK q (cG s j):=by obtain ⟨a,_,e⟩:=oU ⟨h.ok.queue.1,h.queue⟩;have b:=k.gn.ok _ (bG a);have m:=h.ok.many;rw[e];exact ⟨by rw[eq];exact b.part,by grind,h.ok.need,h.ok.lR,h.ok.wall⟩
def named(j:aJ)(r:dG×Μ):dG×Μ:=if r.2=Γ then ({ aU:=j.Id,At:=r.1.At,aj:=r.1.aj },Γ) else ({ aU:=0,At:=0,aj:=[] },Ι)
section
variable{nodes:Β (Β bV)}{q:eY}{L:Ε}(hL:L<=200)(hq:jD q)(hp:PR nodes q L){st:bC}{j:aJ}(hj:d_ q.S st j)
include hL hq hp hj
theorem DS:∃r,(WP 5000 nodes j q.S.aq q.S.aH q.S.am q.S.aS q.S.ae.eH q.S.ae.ce q.S.ae.dE q.S.ae.bg q.S.bE q.S.Mode q.S.ah q.S.fD q.S.aF q.S.aV q.S.cK q.S.In q.S.Out q.S.bF q.aM q.S.aH=Α (named j r))/\zaL 5000 q.S q j=Α (named j r)/\∃T,Ck q T/\tE q (cG q.S j) T r:=by have hw:=gK hq.spec rfl hj;obtain ⟨r,a,b,T,g,d⟩:=PY hL hq hp hw;obtain ⟨n,e,i⟩:=oU ⟨hj.ok.queue.1,hj.queue⟩;have k:=hj.queue;have m:=hj.ok.queue.1;rw[i] at a b;refine ⟨r,?_,?_,T,g,d⟩;{unfold WP;rw[gD (gJ hq.spec),aw,Κ (by simp_all),e,aw];dsimp only at a;rw[a,aw];unfold named;grind};unfold zaL gW;rw[e,aw,aw,b,aw,dQ];unfold named;by_cases h:r.2=Γ;{simp_all};have f:r.2=Ι:=by{simp_all};rw[Κ h,Κ h,(d.no f).2,f]
end
section
variable{nodes:Β (Β bV)}{q:eY}{L:Ε}(hL:L<=200)(hq:jD q)(hp:PR nodes q L){w:Ch}(hw:FK q w)
include hL hq hp hw
end
def MJ{l:Β dj}{n:Ζ}(h:br l n){y:dj}(hl:∀x∈l,x.Node<y.Node)(a:0<=y.Node/\y.Node<n)(hm:1<=y.aN/\y.aN<=64):br (l++[y]) n:=λi hi=>by rw[AZ,yCq] at hi;by_cases g:i<l.length;{have s:=h i g;have e:(l++[y])[i]'(by omega)=l[i]:=yCc g;rw[e];refine ⟨?_,s.lt,s.lo,s.hi⟩;have:Nh ((l++[y]).map (·.Node)) i=Nh (l.map (·.Node)) i:=by{cases i with|zero=>rfl|succ i=>grind [tD]};rw[this];exact s.up};have b:i=l.length:=by{omega};subst b;have e:(l++[y])[l.length]'(by simp)=y:=by{simp};rw[e];refine ⟨?_,a.2,hm.1,hm.2⟩;cases d:l.length with|zero=>show (-1:Ζ)<y.Node;omega|succ i=>grind [tD]
section
variable{F:Β aI}{l:Β Ζ}{need:aI}(hP:im F l)(hR:ju l F.length)(hn:aQ need)(hz:need≠ca)
include hP hR hn hz
structure Sw (F:Β aI) (need:aI) (l:Β Ζ) (x:Ζ×Β dj) (many:Ζ):Prop where
 shares:br x.2 F.length
 mem:∀y∈x.2,y.Node∈l/\y.aN<=cN (eV F y.Node) need
 UN:x.1+kN x.2=many
 left:x.1=if many<=cZ F l need then 0 else many-cZ F l need
theorem Ao{many:Ζ}(hm:1<=many)(i:Ε):Sw F need (l.take i) (sd F need (l.take i) many) many:=by induction i with|zero=>refine ⟨λi h=>by grind [sd],λy a=>by grind [sd],by simp[sd,kN],?_⟩;simp only[sd,Β.take_zero,Β.foldl_nil,cZ,Β.map_nil,Β.sum_nil];omega|succ i ih=>by_cases hi:i<l.length;{have c:=mf hP hn (bG hi);have st:=vz hP hn hz hi many;have rs:=AD hP hn hz hi;have up:∀n∈l.take i,n<l[i]:=λn d=>by{obtain ⟨j,hj,rfl⟩:=OF.1 d;rw[DU] at hj;rw[Tx];have:∀m,j<m->∀(hm:m<l.length),l[j]<l[m]:=by{intro m;induction m with|zero=>omega|succ m f=>intro g hm;have s:=(hR (m+1) hm).1;grind [rz]};grind};have b:∀n,n∈l.take (i+1)↔n∈l.take i\/n=l[i]:=λn=>by{rw[HV hi,jI,yk]};have k:=ih.left;have o:=Ay hP hn hz (i:=i);rw[st];generalize sd F need (l.take i) many=x at *;have p:0<=x.1:=by{omega};unfold IF;by_cases q:A_ x.1 (cN (eV F l[i]) need)=0;{rw[Λ q];refine ⟨ih.shares,λy a=>⟨(b _).2 (.inl (ih.mem y a).1),(ih.mem y a).2⟩,ih.UN,?_⟩;grind [A_]};rw[Κ q];have hb:=hP.node _ (bG hi);have e:1<=A_ x.1 (cN (eV F l[i]) need)/\A_ x.1 (cN (eV F l[i]) need)<=64/\A_ x.1 (cN (eV F l[i]) need)<=cN (eV F l[i]) need:=by{unfold A_ at q ⊢;omega};refine ⟨MJ ih.shares (λy a=>up _ (ih.mem y a).1) hb ⟨e.1,e.2.1⟩,λy a=>?_,?_,?_⟩;{rcases jI.1 a with a | a;{exact ⟨(b _).2 (.inl (ih.mem y a).1),(ih.mem y a).2⟩};simp_all};{grind [Sw.UN,kN]};grind [A_]};grind [Β.take_of_length_le]
theorem XK{many:Ζ}(h:(xQ F l many need).2=Γ):br (xQ F l many need).1 F.length/\kN (xQ F l many need).1=many/\(∀y∈(xQ F l many need).1,y.Node∈l)/\∀(n:Ε)(hn:n<F.length),kM (mulR (dD (xQ F l many need).1 n) need) F[n]\/dD (xQ F l many need).1 n=0:=by obtain ⟨m,u⟩:=m_.1 h;have P:=Ao hP hR hn hz m l.length;rw[tU] at P;have e:xQ F l many need=((sd F need l many).2,Γ):=by{unfold xQ;simp_all};rw[e];have z:=P.left;rw[Λ u] at z;refine ⟨P.shares,by grind [Sw.UN],λy f=>(P.mem y f).1,λn p=>?_⟩;dsimp only;by_cases g:∃y∈(sd F need l many).2,y.Node=(n:Ζ);{left;obtain ⟨y,f,v⟩:=g;obtain ⟨m1,r⟩:=P.mem y f;obtain ⟨i,hi,rfl⟩:=jb f;have o:=M_ P.shares hi;rw[v] at o m1 r;have x:eV F (n:Ζ)=F[n]:=Bv p;have t:=hP.VN _ m1;rw[x] at r t;have k:=tN t hn;rw[o];have d:∀a b:Ζ,(a,b)∈Ha F[n] need->0<=b->(sd F need l many).2[i].aN * b<=a:=λa b A hb=>by{have m:=k.fit _ A;dsimp only at m;have:(sd F need l many).2[i].aN * b<=cN F[n] need * b:=yAU r hb;omega};intro c;rw[CD];match c with|0=>exact d _ _ (by simp[Ha];exact .inl ⟨rfl,rfl⟩) hn.HR.1|1=>exact d _ _ (by simp[Ha];exact .inr (.inl ⟨rfl,rfl⟩)) hn.mem.1|2=>exact d _ _ (by simp[Ha];exact .inr (.inr (.inl ⟨rfl,rfl⟩))) hn.Kb.1|_+3=>exact d _ _ (by simp[Ha];exact .inr (.inr (.inr ⟨rfl,rfl⟩))) hn.MA.1};grind [Bz]
end
def qa(q:eY)(u:qG):eY:={ q with L:=q.L++[u] }
open Classical in
def Xf(q:eY)(u:qG)(k t:Ζ):bK (qa q u) k t=if Fh q.ay k t then ca else fG (fG (eV q.S.aq k) (a_ q.L k t)) (ki u k t):=by
 unfold bK qa;dsimp only;by_cases h:Fh q.ay k t
 ·simp_all
 ·rw[Κ h,Κ h,nE,IR]
def mulR_le{n:Ζ}{need v:aI}(hn:0<=n)(a:aQ need)(h:kM (mulR n need) v\/n=0)(b:aQ v):kM (mulR n need) v:=by rcases h with h | h;{exact h};intro c;grind [yc,CD]
def CZ{nodes:Β (Β bV)}{q:eY}{L:Ε}(hL:L<=200)(hq:jD q)(hp:PR nodes q L){cn a:Ζ}{sh:Β dj}{need:aI}(hs:br sh q.S.aq.length)(hn:aQ need)(hw:1<=a/\a<=65536)(A:q.aM<=cn)(σ:cn<=1099511627776) (d:∀(k:Ε)(h:k<q.S.aq.length) t,cn<=t->t<cn+a->kM (mulR (dD sh k) need) (bK q k t)) : ∃b,za9 5000 nodes cn sh need a q.aM=Α (b,0)/\PR b (qa q { bT:=cn,To:=cn+a,aA:=need,aj:=sh }) (L+2):=by have i:=hp.len;have nn:=hq.spec.nodes.hi;have E:=hq.now;have sl:sh.length<=300:=by{have:=gE hs (by omega);omega};obtain ⟨Z,G,K⟩:=pZ sh nodes.length sl;have:=K.2 (by simp_all);subst this;obtain ⟨r2,M,N⟩:=XZ need;have:=N.2 hn;subst this;obtain ⟨r,e,O,P,p⟩:=DK (by omega) hp.cn (by omega) (by simp_all) sl hn A (show cn<cn+a by omega) (by omega) λk hk t v ta tb Q=>by{rw[(hp.iff hk (by omega)).1 Q];grind};refine ⟨r.1,?_,?_⟩;{unfold za9;rw[dQ,Κ (by simp_all),G,aw,Κ (by simp),M,aw];have R:Θ (a<1)=Ι:=by{simp_all};have U:Θ (a > 65536)=Ι:=by{simp_all};dsimp only;rw[R,U,Κ (by simp),wr (x:=cn+a) (by omega) (by omega),e,aw,O]};refine ⟨by rw[P,i];rfl,⟨λk hk=>?_,λk hk W=>?_⟩,λk hk t X=>?_⟩;{have T:=p k (by omega) hk;exact ⟨T.ok,by have:=T.len;have:=(hp.cn.each k (by omega)).2;omega⟩};{have T:=p k (by omega) hk;have z:=(hp.cn.each k (by omega)).1.ne;rw[T.first z W,hp.cn.first k (by omega) z];rfl};have n:k<nodes.length:=by{omega};have T:=p k n hk;have u:q.aM<=t:=X;have v:=T.val t _ (hp.val k n t u);rw[Xf];by_cases g:cn<=t/\t<cn+a;{rw[Λ g] at v;have y:ki { bT:=cn,To:=cn+a,aA:=need,aj:=sh } k t=mulR (dD sh k) need:=by{unfold ki;simp_all};rw[y];by_cases m:Fh q.ay k t;{rw[Λ m];have o:bK q k t=ca:=by{unfold bK;simp_all};have f:=d k (by omega) t g.1 g.2;rw[o] at f v;have:fG ca (mulR (dD sh k) need)=ca:=eJ λc=>by{have h2:=f c;have h3:=iL (pB hs k) (yc.1 hn c);grind [Dz,QX,CD]};simp_all};rw[Κ m];have o:bK q k t=fG (eV q.S.aq k) (a_ q.L k t):=by{unfold bK;simp_all};simp_all};rw[Κ g] at v;have y:ki { bT:=cn,To:=cn+a,aA:=need,aj:=sh } k t=ca:=by{unfold ki;grind};rw[y];by_cases m:Fh q.ay k t;{rw[Λ m];have o:bK q k t=ca:=by{unfold bK;simp_all};simp_all};rw[Κ m];have o:bK q k t=fG (eV q.S.aq k) (a_ q.L k t):=by{unfold bK;simp_all};rw[o] at v;have:fG (fG (eV q.S.aq k) (a_ q.L k t)) ca=fG (eV q.S.aq k) (a_ q.L k t):=eJ λc=>by{simp only[Dz,QX];omega};simp_all
end Go.Plain
end
section
namespace Go.Plain
open Go.Abs
abbrev K3:=Ζ×Ζ×Ζ
def HL(u v:K3):Prop:=u.1<v.1\/(u.1=v.1/\(u.2.1<v.2.1\/(u.2.1=v.2.1/\u.2.2<v.2.2)))
instance (u v:K3):Decidable (HL u v):=by unfold HL;infer_instance
theorem cmp1{N:Ε}(a b:Ζ):fT N a b=Α (if a<b then -1 else if a > b then 1 else 0):=by simp only[fT,cmp_isNaN_int,aw];simp;split;{rfl};split <;> rfl
def cmp3{N:Ε}(E:4<N)(u v:K3):bR (zaD N ([u.1,u.2.1,u.2.2]:Β Ζ) ([v.1,v.2.1,v.2.2]:Β Ζ)) λr=>(r<0↔HL u v):=by obtain ⟨N,rfl⟩:∃M,N=M+5:=⟨N-5,by omega⟩;obtain ⟨a,b,c⟩:=u;obtain ⟨d,e,f⟩:=v;unfold zaD;have o:i64.wrap (0+1)=1:=rfl;have w1:i64.wrap (1+1)=2:=rfl;have w2:i64.wrap (2+1)=3:=rfl;have p:∀x y z:Ζ,aC [x,y,z] 0=Α x:=λ_ _ _=>rfl;have t:∀x y z:Ζ,aC [x,y,z] 1=Α y:=λ_ _ _=>rfl;have A:∀x y z:Ζ,aC [x,y,z] 2=Α z:=λ_ _ _=>rfl;simp only[bI,HT,yBJ,cmp1,aw,o,w1,w2,p,t,A,HL];simp;by_cases g:a<d;{rw[Λ g];simp[aZ];omega};rw[Κ g];by_cases h:d<a;{rw[Λ h];simp[aZ];omega};rw[Κ h];by_cases i:b<e;{rw[Λ i];simp[aZ];omega};rw[Κ i];by_cases k:e<b;{rw[Λ k];simp[aZ];omega};rw[Κ k];by_cases m:c<f;{rw[Λ m];simp[aZ];omega};rw[Κ m];by_cases n:f<c;{rw[Λ n];simp[aZ];omega};rw[Κ n];simp[aZ];omega
def QR(p:Β K3)(x:Ζ):K3:=p.getD x.toNat (0,0,0)
def TY(p:Β K3)(x:Ζ):Prop:=0<=x/\x<p.length
def YB{p:Β K3}{x:Ζ}(h:TY p x):aC p x=Α (QR p x):=by obtain ⟨a,e⟩:=Dc h.1 h.2;rw[e,QR,Xb,eI a];rfl
def EQ{N:Ε}(d:4<N){p:Β K3}{x y:Ζ}(e:TY p x)(f:TY p y) : bR ((aC p x).bind λa=>(aC p y).bind λb=>(zaD N ([a.1,a.2.1,a.2.2]:Β Ζ) ([b.1,b.2.1,b.2.2]:Β Ζ)).bind λr=>Α r) λr=>(r<0↔HL (QR p x) (QR p y)):=by rw[YB e,YB f,aw,aw];exact (cmp3 d _ _).bind λr g=>aZ.2 g
def dY{α:Type}{L R:Β α}{y:α}{i:Ζ}(h:i=L.length):aC (L++y::R) i=Α y:=by subst h;rw[bZ (by simp)];simp
def iH{α:Type}{L R:Β α}{y z:α}{i:Ζ}(h:i=L.length):(L++y::R).set i.toNat z=L++z::R:=by subst h;simp
def Bu{x y:Ζ}(h:x=y)(a:-9000000<=y)(b:y<9000000):i64.wrap x=y:=by rw[wr (by omega) (by omega)];exact h
theorem up_ok{N:Ε}{L V R:Β Ζ}{y:Ζ}{k E:Ζ}(hk:k=L.length)(t:E=L.length+V.length)(O:V.length<N)(hs:(L++y::V++R).length<=1000) : bI (λh (d:Ζ×Β Ζ)=>if (Θ (d.1<E))=Γ then (aC d.2 (i64.wrap (d.1+1))).bind λe=>(aC d.2 d.1).bind λi=>(aC d.2 d.1).bind λu=>(aC (d.2.set d.1.toNat e) (i64.wrap (d.1+1))).bind λz=>h ((i64.wrap (d.1+1)),((d.2.set d.1.toNat e).set (i64.wrap (d.1+1)).toNat i)) else Α d.2) N (k,L++y::V++R)=Α (L++V++y::R):=by apply bR.eq;simp only[AZ,HT] at hs;refine lpM (I:=λx=>∃b g,x=((b.length:Ζ),b++y::g++R)/\b++g=L++V/\E=b.length+g.length) (m:=λx=>(E-x.1).toNat) (λx f A G=>?_) ⟨L,V,by rw[hk],rfl,t⟩ (by omega);obtain ⟨b,g,rfl,n,o⟩:=A;have p:=Km φ n;simp only[AZ] at p;cases g with|nil=>simp only[yBJ] at o;rw[Κ (by simp;omega),aZ,<-n];simp|cons v a=>simp only[HT] at o p;have w:i64.wrap ((b.length:Ζ)+1)=((b++[y]).length:Ε):=Bu (by simp) (by simp;omega) (by simp;omega);have K:b++y::v::a++R=(b++[y])++v::(a++R):=by{simp};have r:b++y::v::a++R=b++y::(v::a++R):=by{simp};have M:b++v::(v::a++R)=(b++[v])++v::(a++R):=by{simp};simp only;rw[Λ (by simp;omega),w,show aC (b++y::v::a++R) ((b++[y]).length:Ε)=Α v from by rw[K];exact dY rfl,lm,show aC (b++y::v::a++R) (b.length:Ζ)=Α y from by rw[r];exact dY rfl,χ,χ,r,iH rfl,M,dY (by simp),χ,iH (by simp)];refine G _ ⟨b++[v],a,by simp,by rw[<-n];simp,by simp;omega⟩ (by simp;omega)
def dn_ok{N:Ε}{L V R:Β Ζ}{y:Ζ}{k E:Ζ}(hk:k=L.length+V.length)(G:E=L.length)(K:V.length<N)(hs:(L++V++y::R).length<=1000) : bI (λi (a:Ζ×Β Ζ)=>if (Θ (a.1 > E))=Γ then (aC a.2 (i64.wrap (a.1-1))).bind λe=>(aC a.2 a.1).bind λn=>(aC a.2 a.1).bind λp=>(aC (a.2.set a.1.toNat e) (i64.wrap (a.1-1))).bind λr=>i ((i64.wrap (a.1-1)),((a.2.set a.1.toNat e).set (i64.wrap (a.1-1)).toNat n)) else Α a.2) N (k,L++V++y::R)=Α (L++y::V++R):=by apply bR.eq;simp only[AZ,HT] at hs;refine lpM (I:=λx=>∃g d,x=(((L++g).length:Ζ),L++g++y::d)/\g++d=V++R) (m:=λx=>(x.1-E).toNat) (λx f t u=>?_) ⟨V,R,by rw[hk];simp,rfl⟩ (by simp;omega);obtain ⟨g,d,rfl,h⟩:=t;have o:=Km φ h;simp only[AZ] at o;rcases s6 g with rfl | ⟨b,v,rfl⟩;{rw[Κ (by simp;omega),aZ];simp at h;rw[h];simp};simp only[yCu,AZ,HT,yBJ] at o h ⊢;have w:i64.wrap (((L.length+(b.length+(0+1)):Ε):Ζ)-1)=((L++b).length:Ε):=Bu (by simp;omega) (by simp;omega) (by simp;omega);have z:L++(b++[v])++y::d=(L++b)++v::(y::d):=by{simp};have M:L++(b++[v])++y::d=(L++(b++[v]))++y::d:=rfl;have A:(L++(b++[v]))++v::d=(L++b)++v::(v::d):=by{simp};rw[Λ (by simp;omega),w,show aC (L++(b++[v])++y::d) ((L++b).length:Ε)=Α v from by rw[z];exact dY rfl,lm,dY (by simp),χ,χ,iH (by simp),A,dY (by simp),χ,iH (by simp)];refine u _ ⟨b,v::d,by simp,by rw[<-h];simp⟩ (by simp;omega)
theorem ZQ{N:Ε}{L U M V R:Β Ζ}{a b n:Ζ}(ha:a=L.length)(hb:b=L.length+U.length+M.length)(hn:n=U.length)(E:V.length=U.length)(hN:U.length<N)(hs:(L++U++M++V++R).length<=1000) : bI (λr (d:Ζ×Β Ζ)=>if (Θ (d.1<n))=Γ then (aC d.2 (i64.wrap (b+d.1))).bind λp=>(aC d.2 (i64.wrap (a+d.1))).bind λt=>(aC d.2 (i64.wrap (a+d.1))).bind λG=>(aC (d.2.set (i64.wrap (a+d.1)).toNat p) (i64.wrap (b+d.1))).bind λK=>r ((i64.wrap (d.1+1)),((d.2.set (i64.wrap (a+d.1)).toNat p).set (i64.wrap (b+d.1)).toNat t)) else Α d.2) N (0,L++U++M++V++R)=Α (L++V++M++U++R):=by apply bR.eq;simp only[AZ] at hs;refine lpM (I:=λx=>∃h k i o,x=((U.length:Ζ)-k.length,h++k++i++o++R)/\h++o++i++k++R=L++V++M++U++R/\o.length=k.length/\k.length<=U.length/\(h.length:Ζ)=a+U.length-k.length/\(h.length:Ζ)+k.length+i.length=b+U.length-k.length) (m:=λx=>(n-x.1).toNat) (λx f O P=>?_) ⟨L,U,M,V,by simp,rfl,E,by omega,by omega,by omega⟩ (by omega);obtain ⟨h,k,i,o,rfl,y,z,Q,T,W⟩:=O;cases k with|nil=>{cases o with|nil=>rw[Κ (by simp;omega),aZ,<-y]|cons=>simp at z}|cons u e=>cases o with|nil=>simp at z|cons v g=>simp only[HT] at z Q T W;have X:=Km φ y;simp only[AZ,HT] at X;have σ:i64.wrap (a+((U.length:Ζ)-((u::e).length:Ε)))=(h.length:Ε):=Bu (by simp;omega) (by omega) (by omega);have Z:i64.wrap (b+((U.length:Ζ)-((u::e).length:Ε)))=((h++u::e++i).length:Ε):=Bu (by simp;omega) (by simp;omega) (by simp;omega);have wc:i64.wrap (((U.length:Ζ)-((u::e).length:Ε))+1)=(U.length:Ζ)-(e.length:Ε):=Bu (by simp;omega) (by omega) (by omega);have e1:h++u::e++i++v::g++R=(h++u::e++i)++v::(g++R):=by{simp};have A:h++u::e++i++v::g++R=h++u::(e++i++v::g++R):=by{simp};have e3:h++v::(e++i++v::g++R)=(h++v::e++i)++v::(g++R):=by{simp};simp only;rw[Λ (by simp;omega),σ,Z,wc,show aC (h++u::e++i++v::g++R) ((h++u::e++i).length:Ε)=Α v from by rw[e1];exact dY rfl,lm,show aC (h++u::e++i++v::g++R) (h.length:Ε)=Α u from by rw[A];exact dY rfl,χ,χ,A,iH rfl,e3,dY (by simp),χ,iH (by simp)];refine P _ ⟨h++[v],e,i++[u],g,by simp,by rw[<-y];simp,by omega,by omega,by simp;omega,by simp;omega⟩ (by simp;omega)
def bs_ok{R:Type}{b:(Ζ×Ζ->Δ R)->Ζ×Ζ->Δ R}{Q:R->Prop}{a hi N:Ε}(G:Ε->Prop)(h:a<=hi)(v:hi<N) (hs:∀f (s r:Ε),a<=s->s<r->r<=hi->(G ((s+r) / 2)->bR (f (((((s+r) / 2:Ε):Ζ)+1),(r:Ζ))) Q)->(¬G ((s+r) / 2)->bR (f ((s:Ζ),(((s+r) / 2:Ε):Ζ))) Q)->bR (b f ((s:Ζ),(r:Ζ))) Q) (o:∀f (s:Ε),a<=s->s<=hi->(s=a\/G (s-1))->(s=hi\/¬G s)->bR (b f ((s:Ζ),(s:Ζ))) Q):bR (bI b N ((a:Ζ),(hi:Ζ))) Q:=by refine lpM (I:=λx=>∃s r:Ε,x=((s:Ζ),(r:Ζ))/\a<=s/\s<=r/\r<=hi/\(s=a\/G (s-1))/\(r=hi\/¬G r)) (m:=λx=>(x.2-x.1).toNat) (λx f p i=>?_) ⟨a,hi,rfl,by omega,h,by omega,.inl rfl,.inl rfl⟩ (by simp;omega);obtain ⟨s,r,rfl,d,t,e,k,n⟩:=p;rcases Yl t with u | rfl;{refine hs f s r d u e (λg=>i _ ⟨(s+r) / 2+1,r,by simp,by omega,by omega,e,.inr (by simpa using g),n⟩ (by simp;omega)) (λg=>i _ ⟨s,(s+r) / 2,rfl,d,by omega,by omega,k,.inr g⟩ (by simp;omega))};exact o f s d e k n
def qd{R:Type}{a b:Ε}{o:Δ R}(h:a=b):DW a b o=o:=by subst h;simp[DW]
def rot_ok{N:Ε}{L U V R:Β Ζ}{m i j:Ζ}(hm:m=L.length+U.length)(hi:i=U.length)(hj:j=V.length)(hU:0<U.length)(hV:0<V.length)(hN:U.length+V.length<N)(hs:(L++U++V++R).length≤1000) : bI (fun u (d:Ζ×Ζ×Β Ζ)=>if (d.1 != d.2.1)=Γ then if (Θ (d.1 > d.2.1))=Γ then (bI (fun P (k:Ζ×Β Ζ)=>if (Θ (k.1<d.2.1))=Γ then (aC k.2 (i64.wrap (m+k.1))).bind fun v=>(aC k.2 (i64.wrap ((i64.wrap (m-d.1))+k.1))).bind fun Q=>(aC k.2 (i64.wrap ((i64.wrap (m-d.1))+k.1))).bind fun aa=>(aC (k.2.set (i64.wrap ((i64.wrap (m-d.1))+k.1)).toNat v) (i64.wrap (m+k.1))).bind fun ab=>P ((i64.wrap (k.1+1)),((k.2.set (i64.wrap ((i64.wrap (m-d.1))+k.1)).toNat v).set (i64.wrap (m+k.1)).toNat Q)) else Α k.2) N (0,d.2.2)).bind fun y=>DW d.2.2.length y.length <| u ((i64.wrap (d.1-d.2.1)),d.2.1,y) else (bI (fun T (o:Ζ×Β Ζ)=>if (Θ (o.1<d.1))=Γ then (aC o.2 (i64.wrap ((i64.wrap ((i64.wrap (m+d.2.1))-d.1))+o.1))).bind fun z=>(aC o.2 (i64.wrap ((i64.wrap (m-d.1))+o.1))).bind fun W=>(aC o.2 (i64.wrap ((i64.wrap (m-d.1))+o.1))).bind fun ad=>(aC (o.2.set (i64.wrap ((i64.wrap (m-d.1))+o.1)).toNat z) (i64.wrap ((i64.wrap ((i64.wrap (m+d.2.1))-d.1))+o.1))).bind fun af=>T ((i64.wrap (o.1+1)),((o.2.set (i64.wrap ((i64.wrap (m-d.1))+o.1)).toNat z).set (i64.wrap ((i64.wrap ((i64.wrap (m+d.2.1))-d.1))+o.1)).toNat W)) else Α o.2) N (0,d.2.2)).bind fun A=>DW d.2.2.length A.length <| u (d.1,(i64.wrap (d.2.1-d.1)),A) else (bI (fun X (p:Ζ×Β Ζ)=>if (Θ (p.1<d.1))=Γ then (aC p.2 (i64.wrap (m+p.1))).bind fun E=>(aC p.2 (i64.wrap ((i64.wrap (m-d.1))+p.1))).bind fun σ=>(aC p.2 (i64.wrap ((i64.wrap (m-d.1))+p.1))).bind fun ak=>(aC (p.2.set (i64.wrap ((i64.wrap (m-d.1))+p.1)).toNat E) (i64.wrap (m+p.1))).bind fun an=>X ((i64.wrap (p.1+1)),((p.2.set (i64.wrap ((i64.wrap (m-d.1))+p.1)).toNat E).set (i64.wrap (m+p.1)).toNat σ)) else Α p.2) N (0,d.2.2)).bind fun Z=>Α Z) N (i,j,L++U++V++R)=Α (L++V++U++R):=by apply bR.eq;simp only [AZ] at hs;refine lpM (I:=fun x=>∃r h g t,x=((h.length:Ζ),(g.length:Ζ),r++h++g++t)/\r++g++h++t=L++V++U++R/\m=r.length+h.length/\0<h.length/\0<g.length/\h.length≤U.length/\g.length≤V.length) (m:=fun x=>(x.1+x.2.1).toNat) (fun x f hI hr=>?_) ⟨L,U,V,R,by rw [hi,hj],rfl,hm,hU,hV,by omega,by omega⟩ (by simp; omega);obtain ⟨r,h,g,t,rfl,O,h2,h3,h4,h5,h6⟩:=hI;have hl:=Km φ O;simp only [AZ] at hl;have wa:i64.wrap (m-(h.length:Ζ))=(r.length:Ζ):=Bu (by omega) (by omega) (by omega);simp only [wa];by_cases e:h.length=g.length;{rw [Κ (by simp [e])];have:=ZQ (N:=N) (L:=r) (U:=h) (M:=[]) (V:=g) (R:=t) (a:=r.length) (b:=m) (n:=h.length) rfl (by simp; omega) rfl e.symm (by omega) (by simp; omega);simp only [Ei] at this;rw [this,aw,aZ,O]};rw [Λ (by simp; omega)];by_cases e2:g.length<h.length;{rw [Λ (by simp; omega)];have G:h=h.take g.length++h.drop g.length:=(Lx _ _).symm;have:=ZQ (N:=N) (L:=r) (U:=h.take g.length) (M:=h.drop g.length) (V:=g) (R:=t) (a:=r.length) (b:=m) (n:=g.length) rfl (by simp; omega) (by simp; omega) (by simp; omega) (by simp; omega) (by simp; omega);rw [yj r (h.take _),←G] at this;rw [this,aw,qd (by simp; omega),show i64.wrap ((h.length:Ζ)-g.length)=((h.drop g.length).length:Ζ) from Bu (by simp; omega) (by omega) (by simp; omega)];refine hr _ ⟨r++g,h.drop g.length,h.take g.length,t,by simp; omega,?_,by simp; omega,by simp; omega,by simp; omega,by simp; omega,by simp; omega⟩ (by simp; omega);rw [←O];(conv=>rhs; rw [G]);simp};rw [Κ (by simp; omega)];have K:g=g.take (g.length-h.length)++g.drop (g.length-h.length):=(Lx _ _).symm;have wb:i64.wrap (m+(g.length:Ζ))=m+g.length:=Bu rfl (by omega) (by omega);have wc:i64.wrap (m+(g.length:Ζ)-h.length)=m+g.length-h.length:=Bu rfl (by omega) (by omega);have:=ZQ (N:=N) (L:=r) (U:=h) (M:=g.take (g.length-h.length)) (V:=g.drop (g.length-h.length)) (R:=t) (a:=r.length) (b:=m+g.length-h.length) (n:=h.length) rfl (by simp; omega) rfl (by simp; omega) (by omega) (by simp; omega);rw [yj (r++h) (g.take _),←K] at this;simp only [wb,wc];rw [this,aw,qd (by simp; omega),show i64.wrap ((g.length:Ζ)-h.length)=((g.take (g.length-h.length)).length:Ζ) from Bu (by simp; omega) (by omega) (by simp; omega)];refine hr _ ⟨r,g.drop (g.length-h.length),g.take (g.length-h.length),h++t,by simp; omega,?_,by simp; omega,by simp; omega,by simp; omega,by simp; omega,by simp; omega⟩ (by simp; omega);rw [←O];(conv=>rhs; rw [K]);simp
def CL(p:Β K3)(u v:Ζ):Prop:=¬HL (QR p v) (QR p u)
def Ad(p:Β K3)(l:Β Ζ):Prop:=l.Pairwise (CL p)
def CL.trans{p:Β K3}{a b c:Ζ}(h:CL p a b)(i:CL p b c):CL p a c:=by unfold CL HL at *;omega
theorem CL.refl{p:Β K3}{a:Ζ}:CL p a a:=by unfold CL HL;omega
theorem HL.le{p:Β K3}{a b:Ζ}(h:HL (QR p a) (QR p b)):CL p a b:=by unfold CL HL at *;omega
def UW{p:Β K3}{l:Β Ζ}(h:Ad p l){i j:Ε}(a:i<=j)(hj:j<l.length):CL p (l.getD i 0) (l.getD j 0):=by rcases Yl a with b | rfl;{have:=yBb.1 h i j (by omega) hj b;simpa[Xb,hj,show i<l.length by omega] using this};exact .refl
def Hq{p:Β K3}{l:Β Ζ}(h:Ad p l){t:Ε}(d:t<=l.length){y:Ζ}(a:t=0\/CL p (l.getD (t-1) 0) y):∀u∈l.take t,CL p u y:=λu b=>by obtain ⟨i,hi,rfl⟩:=jb b;simp only[DU] at hi;rcases a with rfl | a;{omega};have:=UW h (i:=i) (j:=t-1) (by omega) (by omega);rw[Tx];have e:l.getD i 0=l[i]'(by omega):=by{simp[Xb,show i<l.length by omega]};rw[<-e];exact this.trans a
def HA{p:Β K3}{l:Β Ζ}(h:Ad p l){t:Ε}{y:Ζ}(a:l.length<=t\/CL p y (l.getD t 0)):∀u∈l.drop t,CL p y u:=λu b=>by obtain ⟨i,hi,rfl⟩:=jb b;simp only[yCg] at hi;rcases a with a | a;{omega};have:=UW h (i:=t) (j:=t+i) (by omega) (by omega);rw[yCx];have e:l.getD (t+i) 0=l[t+i]'(by omega):=by{simp[Xb,show t+i<l.length by omega]};rw[<-e];exact a.trans this
def Ad.NM{p:Β K3}{l:Β Ζ}(h:Ad p l)(t:Ε):Ad p (l.take t):=s7 (Β.take_sublist _ _) h
def Ad.OP{p:Β K3}{l:Β Ζ}(h:Ad p l)(t:Ε):Ad p (l.drop t):=s7 (Β.drop_sublist _ _) h
def Us{p:Β K3}{l:Β Ζ}(h:Ad p l){t:Ε}(f:t<=l.length){y:Ζ}(g:t=0\/CL p (l.getD (t-1) 0) y)(i:l.length<=t\/CL p y (l.getD t 0)):Ad p (l.take t++y::l.drop t):=by have a:=Hq h f g;have b:=HA h i;refine Lu.2 ⟨h.NM t,yBy.2 ⟨b,h.OP t⟩,λu e v d=>?_⟩;rcases gC.1 d with rfl | d;{exact a u e};exact (a u e).trans (b v d)
def li{L B R:Β Ζ}{t k:Ε}(hk:k=L.length+t)(a:t<B.length):(L++B++R).getD k 0=B.getD t 0:=by subst hk;simp only[Xb];rw[yj,Pt (by omega),HP (by omega),yBN]
def MT{l:Β Ζ}{k:Ε}{i:Ζ}(h:i=(k:Ζ))(hk:k<l.length):aC l i=Α (l.getD k 0):=by subst h;rw[bZ hk];simp[Xb,hk]
def ES{p:Β K3}{l:Β Ζ}(h:∀x∈l,TY p x){k:Ε}(hk:k<l.length):TY p (l.getD k 0):=by have:l.getD k 0=l[k]:=by{simp[Xb,hk]};rw[this];exact h _ (bG hk)
def DA{X R:Type}{K:X->Δ R}{J:(X->Δ R)->Δ R}{Q:R->Prop}(GU:X->Prop)(a:∀k,(∀x,GU x->bR (k x) Q)->bR (J k) Q)(b:∀x,GU x->bR (K x) Q):bR (jn K J) Q:=a K b
set_option maxHeartbeats 4000000 in
theorem QA{p:Β K3}:∀(N:Ε)(P A B S:Β Ζ)(a m b:Ζ),A≠[]->B≠[]->(P++A++B++S).length<=1000->(∀x∈P++A++B++S,TY p x)->A.length+B.length+1100<=N ->
  a=P.length->m=P.length+A.length->b=P.length+A.length+B.length ->
  bR (zbj N (P++A++B++S) a m b p) λr=>∃C,r=P++C++S/\C.Perm (A++B)/\(Ad p A->Ad p B->Ad p C):=by
 intro N;induction N with
 |zero=>intro P A B S a m b _ _ _ _ h;omega
 |succ N ih=>
  intro P A B S a m b hA hB hl M hN ha hm hb;have a1:0<A.length:=XH.2 hA;have a2:0<B.length:=XH.2 hB;have ak:=hl;simp only[AZ] at ak;show bR (if (i64.wrap (m-a) == 1)=Γ then _ else _) _;rw[bB];have w1:i64.wrap (m-a)=A.length:=Bu (by omega) (by omega) (by omega);have w2:i64.wrap (b-m)=B.length:=Bu (by omega) (by omega) (by omega);rw[w1];refine ⟨λU=>?_,λU=>?_⟩
  ·
   obtain ⟨y,rfl⟩:∃y,A=[y]:=by
    match A,U with
    |[y],_=>exact ⟨y,rfl⟩
    |[],U=>simp at U
    |_::_::_,U=>simp at U;omega
   have hy:aC (P++[y]++B++S) a=Α y:=by rw[show P++[y]++B++S=P++y::(B++S) by simp];exact dY ha
   have an:TY p y:=M y (by simp);simp only[HT,yBJ] at hm hb ak hN;obtain ⟨z,rfl⟩:∃z:Ε,m=z:=⟨P.length+1,by omega⟩;obtain ⟨Q,rfl⟩:∃Q:Ε,b=Q:=⟨P.length+1+B.length,by omega⟩;refine bs_ok (λh=>HL (QR p ((P++[y]++B++S).getD h 0)) (QR p y)) (by omega) (by omega) (λf s r W X o hg hn=>?_) (λf s W X o E=>?_)
   ·have O:(s+r) / 2<(P++[y]++B++S).length:=by simp;omega
    simp only;rw[Λ (by simp;omega),mid (by omega),MT rfl O,aw,hy,aw,Bu (x:=(((s+r) / 2:Ε):Ζ)+1) rfl (by omega) (by omega)];refine (EQ (by omega) (ES M O) an).bind λr T=>?_;rw[bB];exact ⟨λh=>hg (T.1 (by simpa using h)),λh=>hn λg=>h (by simpa using T.2 g)⟩
   ·simp only;rw[Κ (by simp)];have ht:s-z<=B.length:=by omega
    have ax:B=B.take (s-z)++B.drop (s-z):=(Lx _ _).symm;have e:P++[y]++B++S=P++y::B.take (s-z)++(B.drop (s-z)++S):=by simp only[yj,MU,Cr];rw[<-yj (Β.take _ _) (Β.drop _ _) S,Lx]
    rw[Bu (x:=(s:Ζ)-1) (y:=(P.length:Ζ)+(B.take (s-z)).length) (by simp;omega) (by omega) (by simp;omega)]
    conv in (P++[y]++B++S)=>rw[e]
    rw[up_ok ha rfl (by simp;omega) (by simp;omega),aZ];refine ⟨B.take (s-z)++y::B.drop (s-z),by simp,?_,λ_ hb=>Us hb ht ?_ ?_⟩
    ·conv=>rhs;rw[ax]
     exact Β.perm_middle
    ·rcases o with o | o
     ·left;omega
     ·by_cases σ:s-z=0
      ·exact .inl σ
      ·right;rw[li (L:=P++[y]) (B:=B) (R:=S) (t:=s-z-1) (by simp;omega) (by omega)] at o;exact o.le
    ·rcases E with E | E
     ·left;omega
     ·by_cases σ:B.length<=s-z
      ·exact .inl σ
      ·right;rw[li (L:=P++[y]) (B:=B) (R:=S) (t:=s-z) (by simp;omega) (by omega)] at E;exact E
  ·rw[bB,w2];refine ⟨λh2=>?_,λh2=>?_⟩
   ·
    obtain ⟨y,rfl⟩:∃y,B=[y]:=by
     match B,h2 with
     |[y],_=>exact ⟨y,rfl⟩
     |[],U=>simp at U
     |_::_::_,U=>simp at U;omega
    have hy:aC (P++A++[y]++S) m=Α y:=by rw[show P++A++[y]++S=(P++A)++y::S by simp];exact dY (by simp;omega)
    have an:TY p y:=M y (by simp);simp only[HT,yBJ] at hm hb ak hN;obtain ⟨K,rfl⟩:∃K:Ε,a=K:=⟨P.length,by omega⟩;obtain ⟨z,rfl⟩:∃z:Ε,m=z:=⟨P.length+A.length,by omega⟩;refine bs_ok (λh=>¬HL (QR p y) (QR p ((P++A++[y]++S).getD h 0))) (by omega) (by omega) (λf s r W X o hg hn=>?_) (λf s W X o E=>?_)
    ·have O:(s+r) / 2<(P++A++[y]++S).length:=by simp;omega
     simp only;rw[Λ (by simp;omega),mid (by omega),hy,aw,MT rfl O,aw,Bu (x:=(((s+r) / 2:Ε):Ζ)+1) rfl (by omega) (by omega)];refine (EQ (by omega) an (ES M O)).bind λr T=>?_;rw[bB];refine ⟨λh=>hg λg=>?_,λh=>hn λg=>?_⟩
     ·have:=T.2 g;simp at h;omega
     ·simp at h;exact g (T.1 h)
    ·simp only;rw[Κ (by simp)];have ht:s-K<=A.length:=by omega
     have av:A=A.take (s-K)++A.drop (s-K):=(Lx _ _).symm;have e:P++A++[y]++S=(P++A.take (s-K))++A.drop (s-K)++y::S:=by
      conv=>lhs;rw[av]
      simp
     conv in (P++A++[y]++S)=>rw[e]
     rw[dn_ok (by simp;omega) (by simp;omega) (by simp;omega) (by simp;omega),aZ];refine ⟨A.take (s-K)++y::A.drop (s-K),by simp,?_,λhb _=>Us hb ht ?_ ?_⟩
     ·conv=>rhs;rw[av]
      simp only[yj];exact yBK _ (yB6 (l₁:=[y]))
     ·rcases o with o | o
      ·left;omega
      ·by_cases σ:s-K=0
       ·exact .inl σ
       ·right;rw[show P++A++[y]++S=P++A++([y]++S) by simp,li (L:=P) (B:=A) (t:=s-K-1) (by omega) (by omega)] at o;exact o
     ·rcases E with E | E
      ·left;omega
      ·by_cases σ:A.length<=s-K
       ·exact .inl σ
       ·right;rw[show P++A++[y]++S=P++A++([y]++S) by simp,li (L:=P) (B:=A) (t:=s-K) (by omega) (by omega)] at E;exact (B1.1 E).le
   ·
    have av:2<=A.length:=by
     rcases tT A.length 2 with h | h
     ·exact absurd (show ((A.length:Ζ) == 1)=Γ by simp;omega) U
     ·exact h
    have ax:2<=B.length:=by
     rcases tT B.length 2 with h | h
     ·exact absurd (show ((B.length:Ζ) == 1)=Γ by simp;omega) h2
     ·exact h
    obtain ⟨K,rfl⟩:∃K:Ε,a=K:=⟨P.length,by omega⟩;obtain ⟨z,rfl⟩:∃z:Ε,m=z:=⟨P.length+A.length,by omega⟩;obtain ⟨Q,rfl⟩:∃Q:Ε,b=Q:=⟨P.length+A.length+B.length,by omega⟩;have ab:=mid (i:=K) (j:=Q) (by omega);obtain ⟨G,a0⟩:∃G,G=(K+Q) / 2:=⟨_,rfl⟩;rw[<-a0] at ab;simp only[ab];have wn:i64.wrap ((G:Ζ)+(z:Ζ))=((G+z:Ε):Ζ):=Bu (by simp) (by omega) (by omega);simp only[wn];have a5:(P++A++B++S).length=P.length+A.length+B.length+S.length:=by simp;omega
    refine DA (λx=>∃lo hi:Ε,x=((lo:Ζ),(hi:Ζ))/\lo<=hi/\hi<=G/\hi<=z/\K<=lo/\G+z<=Q+lo/\(lo=K\/G+z=Q+lo)/\(hi=z\/hi=G)) (λk hk=>?_) ?_
    ·rw[bB];refine ⟨λh=>hk _ ⟨G+z-Q,G,?_,?_⟩,λh=>hk _ ⟨K,z,rfl,?_⟩⟩
     ·rw[Bu (x:=((G+z:Ε):Ζ)-(Q:Ζ)) (y:=((G+z-Q:Ε):Ζ)) (by simp at h;omega) (by omega) (by omega)]
     ·simp at h;omega
     ·simp at h;omega
    ·rintro _ ⟨lo,hi,rfl,q1,q2,q3,q4,q5,q6,q7⟩;refine bs_ok (λc=>¬HL (QR p ((P++A++B++S).getD (G+z-1-c) 0)) (QR p ((P++A++B++S).getD c 0))) q1 (by omega) (λf s r W X o hg hn=>?_) (λf s W X o E=>?_)
     ·have O:(s+r) / 2<(P++A++B++S).length:=by omega
      have ad:G+z-1-(s+r) / 2<(P++A++B++S).length:=by omega
      have wp:i64.wrap (((G+z:Ε):Ζ)-1)=((G+z-1:Ε):Ζ):=Bu (by omega) (by omega) (by omega);simp only;rw[Λ (by simp;omega),mid (by omega),wp,Bu (x:=((G+z-1:Ε):Ζ)-(((s+r) / 2:Ε):Ζ)) (y:=((G+z-1-(s+r) / 2:Ε):Ζ)) (by omega) (by omega) (by omega),MT rfl ad,aw,MT rfl O,aw,Bu (x:=(((s+r) / 2:Ε):Ζ)+1) rfl (by omega) (by omega)];refine (EQ (by omega) (ES M ad) (ES M O)).bind λr T=>?_;rw[bB];refine ⟨λh=>hg λg=>?_,λh=>hn λg=>?_⟩
      ·have:=T.2 g;simp at h;omega
      ·simp at h;exact g (T.1 h)
     ·simp only;rw[Κ (by simp)];have we:i64.wrap (((G+z:Ε):Ζ)-(s:Ζ))=((G+z-s:Ε):Ζ):=Bu (by omega) (by omega) (by omega);simp only[we];obtain ⟨d,a6⟩:∃d,d=s-K:=⟨_,rfl⟩;obtain ⟨n,a7⟩:∃n,n=G-s:=⟨_,rfl⟩;have la:d<=A.length:=by omega
      have lb:n<=B.length:=by omega
      have eA:A=A.take d++A.drop d:=(Lx _ _).symm;have eB:B=B.take n++B.drop n:=(Lx _ _).symm;have a8:(A.take d).length=d:=by simp;omega
      have a9:(A.drop d).length=A.length-d:=by simp
      have bb:(B.take n).length=n:=by simp;omega
      have bc:(B.drop n).length=B.length-n:=by simp
      have f1:d=0\/B.length<=n\/CL p (A.getD (d-1) 0) (B.getD n 0):=by
       by_cases σ:d=0
       ·exact .inl σ
       by_cases Z:B.length<=n
       ·exact .inr (.inl Z)
       rcases o with o | o
       ·omega
       rw[li (L:=P++A) (B:=B) (R:=S) (t:=n) (by simp;omega) (by omega),show P++A++B++S=P++A++(B++S) by simp,li (L:=P) (B:=A) (t:=d-1) (by omega) (by omega)] at o;exact .inr (.inr o)
      have f2:n=0\/A.length<=d\/CL p (B.getD (n-1) 0) (A.getD d 0):=by
       by_cases σ:n=0
       ·exact .inl σ
       by_cases Z:A.length<=d
       ·exact .inr (.inl Z)
       rcases E with E | E
       ·omega
       rw[li (L:=P++A) (B:=B) (R:=S) (t:=n-1) (by simp;omega) (by omega),show P++A++B++S=P++A++(B++S) by simp,li (L:=P) (B:=A) (t:=d) (by omega) (by omega)] at E;exact .inr (.inr (B1.1 E).le)
      refine DA (λx=>x=P++A.take d++B.take n++A.drop d++B.drop n++S) (λk hk=>?_) ?_
      ·rw[bB];refine ⟨λh=>?_,λh=>hk _ ?_⟩
       ·simp only[bS,bH] at h;have e:P++A++B++S=(P++A.take d)++A.drop d++B.take n++(B.drop n++S):=by
         simp only[yj];rw[<-yj (B.take n) (B.drop n) S,Lx,<-yj (A.take d) (A.drop d),Lx]
        conv in (P++A++B++S)=>rw[e]
        rw[rot_ok (by simp;omega) (by rw[Bu rfl (by omega) (by omega)];omega) (by rw[Bu rfl (by omega) (by omega)];omega) (by omega) (by omega) (by omega) (by simp;omega),lm,qd (by rw[e];simp;omega)];exact hk _ (by simp)
       ·simp only[bS,bH,yBZ] at h;rcases h with h | h
        ·have:A.drop d=[]:=by rw[<-yBf];omega
         have e2:A.take d=A:=by rw[this] at eA;simpa using eA.symm
         rw[this,e2]
         conv=>lhs;rw[eB]
         simp
        ·have:B.take n=[]:=by rw[<-yBf];omega
         have e2:B.drop n=B:=by rw[this] at eB;simpa using eB.symm
         rw[this,e2]
         conv=>lhs;rw[eA]
         simp
      ·rintro _ rfl;refine DA (λx=>∃C1,x=P++C1++A.drop d++B.drop n++S/\C1.Perm (A.take d++B.take n)/\(Ad p (A.take d)->Ad p (B.take n)->Ad p C1)) (λk hk=>?_) ?_
       ·rw[bB];refine ⟨λh=>?_,λh=>hk _ ⟨A.take d++B.take n,by simp,.refl _,λZ h4=>?_⟩⟩
        ·simp only[bS,bH] at h;have e:P++A.take d++B.take n++A.drop d++B.drop n++S=P++A.take d++B.take n++(A.drop d++B.drop n++S):=by simp
         have r:=ih P (A.take d) (B.take n) (A.drop d++B.drop n++S) K s G (by rw[<-XH];omega) (by rw[<-XH];omega) (by rw[<-e];simp;omega) (λx hx=>M x (by
          rw[<-e] at hx;simp only[jI] at hx ⊢;rcases hx with ((((h | h) | h) | h) | h) | h
          ·exact .inl (.inl (.inl h))
          ·exact .inl (.inl (.inr (PZ h)))
          ·exact .inl (.inr (PZ h))
          ·exact .inl (.inl (.inr (yBq h)))
          ·exact .inl (.inr (yBq h))
          ·exact .inr h)) (by omega) ha (by omega) (by omega)
         rw[<-e] at r;refine r.bind λr T=>?_;obtain ⟨C,rfl,Z,h4⟩:=T;have h5:=Z.length_eq;simp only[AZ] at h5;rw[qd (by simp;omega)];exact hk _ ⟨C,by simp,Z,h4⟩
        ·simp only[bS,bH,yBZ] at h;rcases h with h | h
         ·have:A.take d=[]:=by rw[<-yBf];omega
          rw[this];exact h4
         ·have:B.take n=[]:=by rw[<-yBf];omega
          rw[this,Ei];exact Z
       ·rintro _ ⟨C1,rfl,g1,g2⟩;have lC:=g1.length_eq;simp only[AZ] at lC;have aa:∀C2:Β Ζ,C2.Perm (A.drop d++B.drop n)->Ad p A->Ad p B->∀u∈C1,∀v∈C2,CL p u v:=λC2 g3 sA sB u hu v M=>by
         have hu:=jI.1 (g1.mem_iff.1 hu);have M:=jI.1 (g3.mem_iff.1 M);rcases hu with hu | hu <;> rcases M with M | M
         ·have:=Lu.1 (eA▸sA:Ad p (A.take d++A.drop d));exact this.2.2 u hu v M
         ·rcases f1 with f1 | f1 | f1
          ·subst f1;simp at hu
          ·rw[yBA f1] at M;simp at M
          ·exact HA sB (.inr (Hq sA la (.inr f1) u hu)) v M
         ·rcases f2 with f2 | f2 | f2
          ·rw[f2] at hu;simp at hu
          ·rw[yBA f2] at M;simp at M
          ·exact HA sA (.inr (Hq sB lb (.inr f2) u hu)) v M
         ·have:=Lu.1 (eB▸sB:Ad p (B.take n++B.drop n));exact this.2.2 u hu v M
        have af:∀C2:Β Ζ,C2.Perm (A.drop d++B.drop n)->(C1++C2).Perm (A++B):=λC2 g3=>by
         refine (Cv g1 g3).trans ?_
         conv=>rhs;rw[eA,eB]
         simp only[yj];refine yBK _ ?_;rw[<-yj,<-yj (A.drop d)];exact Β.Perm.append_right _ yB6
        rw[bB];refine ⟨λh=>?_,λh=>aZ.2 ⟨C1++(A.drop d++B.drop n),by simp,af _ (.refl _),λsA sB=>?_⟩⟩
        ·simp only[bS,bH] at h;have e:P++C1++A.drop d++B.drop n++S=(P++C1)++A.drop d++B.drop n++S:=rfl;have r:=ih (P++C1) (A.drop d) (B.drop n) S G ((G+z-s:Ε):Ζ) Q (by rw[<-XH];omega) (by rw[<-XH];omega) (by simp;omega) (λx hx=>M x (by
          simp only[jI] at hx ⊢;rcases hx with (((h | h) | h) | h) | h
          ·exact .inl (.inl (.inl h))
          ·rcases jI.1 (g1.mem_iff.1 h) with h | h
           ·exact .inl (.inl (.inr (PZ h)))
           ·exact .inl (.inr (PZ h))
          ·exact .inl (.inl (.inr (yBq h)))
          ·exact .inl (.inr (yBq h))
          ·exact .inr h)) (by omega) (by simp;omega) (by simp;omega) (by simp;omega)
         refine r.bind λr T=>?_;obtain ⟨C2,rfl,Z,h4⟩:=T;refine aZ.2 ⟨C1++C2,by simp,af _ Z,λsA sB=>?_⟩;exact Lu.2 ⟨g2 (sA.NM _) (sB.NM _),h4 (sA.OP _) (sB.OP _),aa _ Z sA sB⟩
        ·refine Lu.2 ⟨g2 (sA.NM _) (sB.NM _),?_,aa _ (.refl _) sA sB⟩;simp only[bS,bH,yBZ] at h;rcases h with h | h
         ·have:A.drop d=[]:=by rw[<-yBf];omega
          rw[this];exact sB.OP _
         ·have:B.drop n=[]:=by rw[<-yBf];omega
          rw[this,Ei];exact sA.OP _
end Go.Plain
end
section
namespace Go.Plain
open Go.Abs
def sX{X R:Type}{b:(X->Δ R)->X->Δ R}{Q:R->Prop}{n:Ε}{x:X}(hn:0<n)(h:∀f,f=bI b (n-1)->bR (b f x) Q):bR (bI b n x) Q:=by obtain ⟨k,rfl⟩:∃k,n=k+1:=⟨n-1,by omega⟩;exact h _ rfl
def Su{p:Β K3}{N:Ε}{P A S:Β Ζ}{a E:Ζ}(ha:a=P.length)(hE:E=P.length+A.length)(hN:1100<=N)(hl:(P++A++S).length<=1000)(O:∀x∈P++A++S,TY p x) : bR (bI (λf8 (Q : Ζ × Β Ζ)=>if (Θ (Q.1<E))=Γ then bI (λad (d:Ζ×Β Ζ)=>jn (λ(af:Μ)=>if af=Γ then (aC d.2 (i64.wrap (d.1-1))).bind λR=>(aC d.2 d.1).bind λak=>(aC d.2 d.1).bind λa6=>(aC (d.2.set d.1.toNat R) (i64.wrap (d.1-1))).bind λa7=>ad ((i64.wrap (d.1-1)),((d.2.set d.1.toNat R).set (i64.wrap (d.1-1)).toNat ak)) else f8 ((i64.wrap (Q.1+1)),d.2)) λW=>if (Θ (d.1 > a))=Γ then (aC d.2 d.1).bind λan=>(aC d.2 (i64.wrap (d.1-1))).bind λav=>((aC p an).bind λt=>(aC p av).bind λG=>(zaD N ([t.1,t.2.1,t.2.2]:Β Ζ) ([G.1,G.2.1,G.2.2]:Β Ζ)).bind λax=>Α ax).bind λa0=>W (Θ (a0<0)) else W Ι) N (Q.1,Q.2) else Α Q.2) N ((i64.wrap (a+1)),P++A++S)) λr=>∃C,r=P++C++S/\C.Perm A/\Ad p C:=by have a1:=hl;simp only[AZ] at a1;rw[Bu (x:=a+1) (y:=a+1) rfl (by omega) (by omega)];refine lpM (I:=λx=>∃C T,x.2=P++C++T++S/\(C++T).Perm A/\Ad p C/\x.1=a+(if A=[] then 1 else (C.length:Ζ))/\(A≠[]->0<C.length)) (m:=λx=>(E+1-x.1).toNat) (λx f hI hr=>?_) ?_ (by simp;omega);{obtain ⟨i,row⟩:=x;obtain ⟨C,T,rfl,hp,hs,hi,h0⟩:=hI;simp only at hi hr ⊢;have n:=hp.length_eq;simp only[AZ] at n;by_cases hA:A=[];{subst hA;simp only[Υ,yBJ] at hi n hE;rw[Κ (by simp;omega),aZ];have hC:C=[]:=by{rw[<-yBf];omega};have hT:T=[]:=by{rw[<-yBf];omega};subst hC hT;exact ⟨[],by simp,.refl _,hs⟩};rw[Κ hA] at hi;have a8:=h0 hA;cases T with|nil=>simp only[yBJ] at n;rw[Κ (by simp;omega),aZ];exact ⟨C,by simp,by simpa using hp,hs⟩|cons y T=>simp only[HT] at n;rw[Λ (by simp;omega)];refine lpM (I:=λz=>∃U V,z=(a+(U.length:Ζ),P++U++y::(V++T++S))/\U++V=C/\∀v∈V,CL p y v) (m:=λz=>(z.1-a).toNat) (λz g hz a2=>?_) ⟨C,[],by rw[hi];simp,by simp,by simp⟩ (by simp;omega);obtain ⟨U,V,rfl,e,X⟩:=hz;have K:=Km φ e;simp only[AZ] at K;have M:∀x∈P++U++y::(V++T++S),TY p x:=λx σ=>O x (by simp only[jI,gC] at σ ⊢;have o:x∈U\/x∈V\/x=y\/x∈T->x∈A:=λh=>hp.mem_iff.1 (by rw[<-e];simp only[jI,gC];rcases h with h | h | h | h;{exact .inl (.inl h)};{exact .inl (.inr h)};{exact .inr (.inl h)};exact .inr (.inr h));rcases σ with (h | h) | h | (h | h) | h;{exact .inl (.inl h)};{exact .inl (.inr (o (.inl h)))};{exact .inl (.inr (o (.inr (.inr (.inl h)))))};{exact .inl (.inr (o (.inr (.inl h))))};{exact .inl (.inr (o (.inr (.inr (.inr h)))))};exact .inr h);have done:(∀u∈U,CL p u y)->bR (f (i64.wrap (i+1),P++U++y::(V++T++S))) (λr=>∃C,r=P++C++S/\C.Perm A/\Ad p C):=λhu=>by{rw[Bu (x:=i+1) rfl (by omega) (by omega)];refine hr _ ⟨U++y::V,T,by simp,?_,?_,?_,λ_=>by simp;omega⟩ (by simp;omega);{refine Β.Perm.trans ?_ hp;rw[<-e];have:(U++y::V).Perm (U++V++[y]):=by{rw[yj];exact yBK _ (yB6 (l₁:=[y]))};have:=this.append_right T;simpa using this};{have Z:=Lu.1 (e▸hs:Ad p (U++V));refine Lu.2 ⟨Z.1,yBy.2 ⟨X,Z.2.1⟩,λu h v O=>?_⟩;rcases gC.1 O with rfl | O;{exact hu u h};exact Z.2.2 u h v O};rw[Κ hA];simp;omega};refine DA (λx=>(x=Γ->∃b v,U=b++[v]/\CL p y v)/\(x=Ι->∀u∈U,CL p u y)) (λk hk=>?_) (λx σ=>?_);{rw[bB];refine ⟨λh=>?_,λh=>hk _ ⟨by simp,λ_ u hu=>?_⟩⟩;{simp at h;rcases s6 U with rfl | ⟨b,v,rfl⟩;{simp at h};simp only[yCu] at M hk h ⊢;simp only[yCu,AZ,HT,yBJ] at K;have w:i64.wrap (a+((b++[v]).length:Ε)-1)=((P++b).length:Ε):=Bu (by simp;omega) (by simp;omega) (by simp;omega);have e1:P++(b++[v])++y::(V++T++S)=(P++b)++v::(y::(V++T++S)):=by{simp};rw[w,dY (by simp;omega),aw,show aC (P++(b++[v])++y::(V++T++S)) ((P++b).length:Ε)=Α v from by rw[e1];exact dY rfl,lm];refine (EQ (by omega) (M y (by simp)) (M v (by simp))).bind λr aa=>hk _ ⟨λh=>⟨b,v,rfl,(aa.1 (by simpa using h)).le⟩,λh u hu=>?_⟩;have ab:CL p v y:=λg=>by{have:=aa.2 g;simp at h;omega};simp only[yCu] at e;have Z:=Lu.1 (e▸hs:Ad p ((b++[v])++V));have h2:=Lu.1 Z.1;rcases jI.1 hu with hu | hu;{exact (h2.2.2 u hu v (by simp)).trans ab};simp at hu;subst hu;exact ab};simp at h;have:U=[]:=by{rw[<-yBf];omega};subst this;simp at hu};rw[bB];refine ⟨λh=>?_,λh=>done (σ.2 (by simpa using h))⟩;obtain ⟨b,v,rfl,a5⟩:=σ.1 h;simp only[AZ,HT,yBJ] at K;have w:i64.wrap (a+((b++[v]).length:Ε)-1)=((P++b).length:Ε):=Bu (by simp;omega) (by simp;omega) (by simp;omega);have e1:P++(b++[v])++y::(V++T++S)=(P++b)++v::(y::(V++T++S)):=by{simp};have e3:P++(b++[v])++v::(V++T++S)=(P++b)++v::(v::(V++T++S)):=by{simp};simp only;rw[w,show aC (P++(b++[v])++y::(V++T++S)) ((P++b).length:Ε)=Α v from by rw[e1];exact dY rfl,lm,dY (by simp;omega),lm,lm,iH (by simp;omega),e3,dY (by simp),lm,iH (by simp)];refine a2 _ ⟨b,v::V,by simp;omega,by rw[<-e];simp,λu hu=>?_⟩ (by simp;omega);rcases gC.1 hu with rfl | hu;{exact a5};exact X u hu};refine ⟨A.take 1,A.drop 1,by simp only[yj];rw[<-yj (A.take 1),Lx],by rw[Lx],?_,?_,?_⟩;{cases A with|nil=>exact .nil|cons=>simp[Ad]};{cases A <;> simp};intro (h:A≠[]);have:=XH.2 h;simp;omega
def QO(n:Ε):Β Ζ:=(Β.range n).map λ(i:Ε)=>(i:Ζ)
theorem pS(n:Ε):(QO n).length=n:=by simp[QO]
def upn_get{n i:Ε}(h:i<n):(QO n)[i]'(by rw[pS];exact h)=(i:Ζ):=by simp[QO]
def LV{p:Β K3}{x:Ζ}(h:x∈QO p.length):TY p x:=by simp only[QO,jp,yCi] at h;obtain ⟨i,hi,rfl⟩:=h;exact ⟨by omega,by omega⟩
def Pg{α:Type}{z:α}{n:Ε}(h:n<=1000):Ff z (n:Ζ) (n:Ζ)=Α (μ n z):=by unfold Ff;simp;omega
def GH{N:Ε}{p:Β K3}(hp:p.length<40)(hN:2000<=N):bR (zfC N p) λr=>r.Perm (QO p.length)/\Ad p r:=by unfold zfC;rw[Pg (by omega),aw];refine gR p.length (λi x=>x=((i:Ζ),(QO p.length).take i++μ (p.length-i) 0)) (λi x f hi n b=>?_) (λx f n=>?_) (by simp) (by omega);{subst n;have hl:((QO p.length).take i).length=i:=by{simp[pS];omega};have e:μ (p.length-i) (0:Ζ)=0::μ (p.length-(i+1)) 0:=by{rw[show p.length-i=(p.length-(i+1))+1 by omega,xAe]};simp only;rw[Λ (by simp;omega),e,dY (by rw[hl]),lm,iH (by rw[hl]),bY (by omega)];refine b _ (by rw[yCd,eI (by rw[pS];exact hi),upn_get hi];simp)};subst n;rw[yBz (by rw[pS];exact cR _),yC5,xAf,Ei];simp only;rw[Κ (by simp),pS];generalize n:QO p.length=x;have z:x.length=p.length:=by{rw[<-n,pS]};have d:∀a∈x,TY p a:=λa g=>LV (by rw[n];exact g);suffices key:∀o:Δ (Β Ζ),(bR o λr=>r.Perm x/\Ad p r)->bR ((o.bind λK=>Α K).bind λu=>DW p.length u.length<|Α u) λr=>r.Perm x/\Ad p r by{refine key _ ?_;have M:i64.wrap (20+20)=40:=rfl;have O:i64.wrap (2 * 20)=40:=rfl;have Q:i64.wrap (20 * 2)=40:=rfl;have R:i64.wrap (0+20)=20:=rfl;by_cases aa:p.length<20;{refine sX (by omega) λf y=>?_;simp only;rw[Κ (by simp;omega)];have X:=Su (p:=p) (N:=N) (P:=[]) (A:=x) (S:=[]) (a:=0) (E:=p.length) rfl (by simp;omega) (by omega) (by simp;omega) (by simpa using d);rw[Cr,Ei] at X;refine X.bind λr b=>?_;obtain ⟨C,rfl,h,t⟩:=b;rw[qd (by simpa using h.length_eq.symm)];refine sX (by omega) λf y=>?_;rw[Κ (by simp;omega),aZ];exact ⟨by simpa using h,by simpa using t⟩};refine sX (by omega) λf y=>?_;simp only;have v:x=x.take 20++x.drop 20:=(Lx _ _).symm;have σ:(x.take 20).length=20:=by{simp;omega};have Z:(x.drop 20).length=p.length-20:=by{simp;omega};rw[Λ (by simp;omega)];have r1:=Su (p:=p) (N:=N) (P:=[]) (A:=x.take 20) (S:=x.drop 20) (a:=0) (E:=20) rfl (by rw[σ];simp) (by omega) (by simp;omega) (by simpa using d);rw[Cr,<-v] at r1;refine r1.bind λr b=>?_;obtain ⟨C,rfl,h,t⟩:=b;have T:C.length=20:=by{rw[h.length_eq,σ]};rw[Cr,qd (by simp;omega),M,y];refine sX (by omega) λf y=>?_;simp only;rw[Κ (by simp;omega)];have U:∀a∈C++x.drop 20,TY p a:=λa g=>d a (by rcases jI.1 g with g | g;{exact PZ (h.mem_iff.1 g)};exact yBq g);have r2:=Su (p:=p) (N:=N) (P:=C) (A:=x.drop 20) (S:=[]) (a:=20) (E:=p.length) (by rw[T];rfl) (by rw[T,Z];omega) (by omega) (by simp;omega) (by simpa using U);rw[Ei] at r2;refine r2.bind λr b=>?_;obtain ⟨D,rfl,h3,h4⟩:=b;have lD:D.length=p.length-20:=by{rw[h3.length_eq,Z]};have m:(C++D).Perm x:=by{rw[v];exact Cv h h3};rw[Ei,qd (by simp;omega)];refine sX (by omega) λf2 W=>?_;simp only;by_cases ab:p.length=20;{rw[Κ (by simp;omega),aZ];have:D=[]:=by{rw[<-yBf];omega};subst this;exact ⟨m,by simpa using t⟩};rw[Λ (by simp;omega),O];refine sX (by omega) λf3 ad=>?_;simp only;rw[Κ (by simp;omega),R];refine DA (λr=>r.Perm x/\Ad p r) (λk hk=>?_) (λr b=>?_);{rw[Λ (by simp;omega)];have r3:=QA (p:=p) N [] C D [] 0 20 p.length (by rw[<-XH];omega) (by rw[<-XH];omega) (by simp;omega) (λa g=>d a (m.mem_iff.1 (by simpa using g))) (by omega) rfl (by rw[T];rfl) (by simp;omega);rw[Cr,Ei] at r3;refine r3.bind λr b=>?_;obtain ⟨G,rfl,h5,h6⟩:=b;have lG:=h5.length_eq;rw[qd (by simp at lG ⊢;omega)];exact hk _ ⟨by simpa using h5.trans m,by simpa using h6 t h4⟩};rw[Q,W];refine sX (by omega) λf4 af=>?_;simp only;rw[Κ (by simp;omega),aZ];exact b};intro o ⟨r,ho,h,t⟩;rw[ho,aw,aw,qd (by rw[h.length_eq,z])];exact aZ.2 ⟨h,t⟩
end Go.Plain
end
