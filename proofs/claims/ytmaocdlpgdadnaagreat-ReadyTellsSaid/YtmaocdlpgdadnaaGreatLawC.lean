/- TyR5, TyR6, TyR7, TyS1, TySA, TyR8 -/
import Derived.Test.YtmaocdlpgdadnaaGreatLawB
import Derived.KernelRfl
set_option linter.all false
section
namespace Go.Plain
open Go.Abs
theorem BZ{s:aX}(hs:iC s)(k:bn s):JT 5000 s=some true:=by obtain ⟨r,e,h⟩:=mq s hs;rw[e,h.2 k]
theorem XP{now a:Int}(g:0<=a/\a<=1099511627776)(h1:0<=now/\now<=1099511627776):∃v,uu 5000 now a=some v/\zdF 5000 now a=some v/\0<=v/\v<=4096:=by
 unfold uu zdF;by_cases h:now<=a
 ·have hd:decide (now<=a)=true:=by simpa using h
  rw[if_pos hd,if_pos hd];exact ⟨0,rfl,rfl,by omega,by omega⟩
 ·have hd:¬decide (now<=a)=true:=by simpa using h
  rw[if_neg hd,if_neg hd];have d:∀x:Int,0<=x->x<=1099511627776->IntKind.u64.wrap x=x:=λx h1 b=>by simp only[IntKind.wrap,IntKind.bits,IntKind.signed];simp;omega
  rw[d now h1.1 h1.2,d a g.1 g.2,d (now-a) (by omega) (by omega),wr (x:=if 4096<now-a then 4096 else now-a) (by split <;> omega) (by split <;> omega)]
  refine ⟨if 4096<now-a then 4096 else now-a,rfl,?_,by split <;> omega,by split <;> omega⟩
  apply bp.eq;refine QO (I:=λx=>1<=x/\x<=4096/\x<=now-a) (m:=λx=>(4096-x).toNat) (λx f j i=>?_) ⟨by omega,by omega,by omega⟩ (by omega);rw[aR];refine ⟨λb=>?_,λb=>?_⟩
  ·simp at b;rw[aR,wr (by omega) (by omega),wr (by omega) (by omega)];refine ⟨λe=>?_,λe=>?_⟩
   ·simp at e;rw[aP,if_neg (by omega)];omega
   ·simp at e;exact i _ ⟨by omega,by omega,by omega⟩ (by omega)
  ·simp at b;rw[aP];split <;> omega
theorem CX(x a b:Int)(h:a<=b):∃v,QK 5000 x a b=some v/\Wv 5000 x a b=some v/\a<=v/\v<=b:=by
 unfold QK Wv;by_cases h1:x<a
 ·have hd:decide (x<a)=true:=by simpa using h1
  rw[if_pos hd];exact ⟨a,rfl,rfl,by omega,h⟩
 ·have hd:¬decide (x<a)=true:=by simpa using h1
  rw[if_neg hd];by_cases d:x > b
  ·have hd:decide (x > b)=true:=by simpa using d
   rw[if_pos hd];exact ⟨b,rfl,rfl,h,by omega⟩
  ·have hd:¬decide (x > b)=true:=by simpa using d
   rw[if_neg hd];exact ⟨x,rfl,rfl,by omega,by omega⟩
theorem Lg(x:Int):∃v,fx 5000 x=some v/\YL 5000 x=some v/\0<=v/\v<=4096:=by
 obtain ⟨r,b,d,h1,i⟩:=CX x 0 1099511627776 (by omega);unfold fx YL;rw[b,d,aF,aF];have eq:zx .i64 r 16=some (r / 16):=by unfold zx;rw[if_neg (by omega),yBL h1,wr (by omega) (by omega)]
 rw[eq,aF,aF];obtain ⟨v,_,a,e,f⟩:=CX (r / 16) 0 4096 (by omega);refine ⟨v,?_,by rw[a];rfl,e,f⟩;unfold Wv at a;have g:¬decide (r / 16<0)=true:=by simp;omega
 rw[if_neg g] at a;by_cases h:r / 16 > 4096
 ·have hd:decide (r / 16 > 4096)=true:=by simpa using h
  rw[if_pos hd] at a;rw[if_pos (show (4096:Int)<r / 16 from h)];exact a
 ·have hd:¬decide (r / 16 > 4096)=true:=by simpa using h
  rw[if_neg hd] at a;rw[if_neg (show ¬(4096:Int)<r / 16 from h)];exact a
theorem Un{s:aX}(hs:iC s)(k:bn s){j:aD}(O:jL j){now:Int}(h1:0<=now/\now<=1099511627776)(use:List Int) :
  ∃v,qH 5000 s j now use=some v/\Yp 5000 s j now use=some v/\-1000000000<=v/\v<=1000000000:=by
 obtain ⟨ag,P,Q,R,S⟩:=XP O.born h1;obtain ⟨d,T,U,W,X⟩:=CX j.aZ 0 64 (by omega);have w1:=k.weights.age;have w2:=k.weights.size;have w3:=k.weights.Wm;have w4:=k.weights.MM;have g:∀{a b m n:Int},0<=a/\a<=m->0<=b->b<=n->0<=a * b/\a * b<=m * n:=λK z Y=>⟨Ys K.1 z,Int.mul_le_mul K.2 Y z (by omega)⟩
 have m1:=g w1 R S;have m2:=g w2 W X;have E:∀q f:Int,0<=q->q<=100->0<=f->f<=4096->∃v,v=IntKind.i64.wrap ((IntKind.i64.wrap ((IntKind.i64.wrap (IntKind.i64.wrap (s.ae.oJ * ag)+IntKind.i64.wrap (s.ae.cQ * d)))+IntKind.i64.wrap (s.ae.iy * q)))-IntKind.i64.wrap (s.ae.bJ * f))/\-1000000000<=v/\v<=1000000000:=λq f o p f0 f1=>by have m3:=g w3 o p;have m4:=g w4 f0 f1;refine ⟨_,rfl,?_⟩;rw[wr (x:=s.ae.oJ * ag) (by omega) (by omega),wr (x:=s.ae.cQ * d) (by omega) (by omega),wr (x:=s.ae.iy * q) (by omega) (by omega),wr (x:=s.ae.bJ * f) (by omega) (by omega)];rw[wr (x:=s.ae.oJ * ag+s.ae.cQ * d) (by omega) (by omega),wr (x:=s.ae.oJ * ag+s.ae.cQ * d+s.ae.iy * q) (by omega) (by omega),wr (by omega) (by omega)];omega
 have L:∀q:Int,0<=q->q<=100->∃v,(jn (λ(Z:Int)=>
    (some ag).bind λr6=>
    (some d).bind λr7=>
    some ((IntKind.i64.wrap (s.ae.oJ * r6)),(IntKind.i64.wrap (s.ae.cQ * r7)),(IntKind.i64.wrap (s.ae.iy * q)),(IntKind.i64.wrap (s.ae.bJ * Z)))) λM=>
   if ((decide (j.bH≥0))&&(decide (j.bH<(use.length:Int))))=true then
    (au use j.bH).bind λa8=>
    (fx 5000 a8).bind λr9=>
    M r9
   else
    M 0)=some v/\(jn (λ(x5:Int)=>
   some ((IntKind.i64.wrap (s.ae.oJ * ag)),(IntKind.i64.wrap (s.ae.cQ * d)),(IntKind.i64.wrap (s.ae.iy * q)),x5)) λN=>
  if ((decide (j.bH≥0))&&(decide (j.bH<(use.length:Int))))=true then
   (au use j.bH).bind λa7=>
   (YL 5000 a7).bind λr8=>
   N (IntKind.i64.wrap (s.ae.bJ * r8))
  else
   N 0)=some v/\∃f,0<=f/\f<=4096/\v=((IntKind.i64.wrap (s.ae.oJ * ag)),(IntKind.i64.wrap (s.ae.cQ * d)),(IntKind.i64.wrap (s.ae.iy * q)),(IntKind.i64.wrap (s.ae.bJ * f))):=λq o p=>by
  simp only[kh,Option.bind_some];by_cases r:((decide (j.bH≥0))&&(decide (j.bH<(use.length:Int))))=true
  ·simp only[aU,aM] at r;obtain ⟨F,e⟩:=cS (l:=use) r.1 r.2;obtain ⟨f,f1,f2,f3,f4⟩:=Lg (use[j.bH.toNat]'F);have hd:((decide (j.bH≥0))&&(decide (j.bH<(use.length:Int))))=true:=by simpa using r
   rw[if_pos hd,if_pos hd,e,aF,aF,f1,f2,aF];exact ⟨_,rfl,rfl,f,f3,f4,rfl⟩
  ·rw[if_neg r,if_neg r];refine ⟨_,rfl,?_,0,by omega,by omega,rfl⟩;rw[Int.mul_zero];rfl
 have fin:∀q:Int,0<=q->q<=100->∀v:Int×Int×Int×Int,(∃f,0<=f/\f<=4096/\v=((IntKind.i64.wrap (s.ae.oJ * ag)),(IntKind.i64.wrap (s.ae.cQ * d)),(IntKind.i64.wrap (s.ae.iy * q)),(IntKind.i64.wrap (s.ae.bJ * f)))) ->
   -1000000000<=IntKind.i64.wrap ((IntKind.i64.wrap ((IntKind.i64.wrap (v.1+v.2.1))+v.2.2.1))-v.2.2.2)/\IntKind.i64.wrap ((IntKind.i64.wrap ((IntKind.i64.wrap (v.1+v.2.1))+v.2.2.1))-v.2.2.2)<=1000000000:=λq o p v ⟨f,f0,f1,G⟩=>by
  subst G;obtain ⟨v,G,z⟩:=E q f o p f0 f1;simp only;rw[<-G];exact z
 have h:∃v,mK 5000 s j now use=some v/\zcG 5000 s j now use=some v/\∃q,0<=q/\q<=100/\∃f,0<=f/\f<=4096/\v=((IntKind.i64.wrap (s.ae.oJ * ag)),(IntKind.i64.wrap (s.ae.cQ * d)),(IntKind.i64.wrap (s.ae.iy * q)),(IntKind.i64.wrap (s.ae.bJ * f))):=by
  unfold mK zcG;rw[BZ hs k,P,Q,T,U];simp only[Option.bind_some];rw[if_neg (by simp),kh,kh];by_cases u:((decide (j.Queue≥0))&&(decide (j.Queue<(s.ah.length:Int))))=true
  ·have i:=u;simp only[aU,aM] at i;obtain ⟨F,e⟩:=cS (l:=s.ah) i.1 i.2;have A:=(k.lq.ok _ (bZ F)).Wm;obtain ⟨v,w,t,y⟩:=L _ A.1 A.2;rw[if_pos u,if_pos u,e];exact ⟨v,w,t,_,A.1,A.2,y⟩
  ·obtain ⟨v,w,t,y⟩:=L 0 (by omega) (by omega);rw[if_neg u,if_neg u];have w0:IntKind.i64.wrap (s.ae.iy * 0)=0:=by rw[Int.mul_zero];rfl
   rw[w0] at t;exact ⟨v,w,t,0,by omega,by omega,y⟩
 obtain ⟨v,w,t,q,o,p,y⟩:=h;unfold qH Yp;rw[w,t];exact ⟨_,rfl,rfl,fin q o p v y⟩
end Go.Plain
end
section
namespace Go.Plain
open Go.Abs
def Oi(s:aX)(now:Int)(use:List Int)(j:aD):Int:=(qH 5000 s j now use).getD 0
def mh(s:aX)(now:Int)(use:List Int)(j:aD):K3:=(-Oi s now use j,j.dy,j.Id)
def AD(a:aD->K3)(u v:aD):Prop:=¬zu (a v) (a u)
theorem AD.trans{i:aD->K3}{a b c:aD}(h:AD i a b)(j:AD i b c):AD i a c:=by unfold AD zu at *;omega
theorem AD.of{i:aD->K3}{a b:aD}(h:zu (i a) (i b)):AD i a b:=by unfold AD zu at *;omega
theorem AD.refl{i:aD->K3}{a:aD}:AD i a a:=by unfold AD zu;omega
section
variable{s:aX}(hs:iC s)(k:bn s){now:Int}(h1:0<=now/\now<=1099511627776)(use:List Int)
include hs k h1
theorem Pn{j:aD}(b:jL j):qH 5000 s j now use=some (Oi s now use j)/\Yp 5000 s j now use=some (Oi s now use j)/\-1000000000<=Oi s now use j/\Oi s now use j<=1000000000:=by
 obtain ⟨v,a,d,h⟩:=Un hs k b h1 use;have:Oi s now use j=v:=by unfold Oi;rw[a];rfl
 rw[this];exact ⟨a,d,h⟩
theorem Xx{j:aD}(a:jL j):ur 5000 s j { fL:=now,iW:=use }=some (mh s now use j):=by obtain ⟨b,_,d,e⟩:=Pn hs k h1 use a;unfold ur;simp only;rw[b,aF,show IntKind.i64.wrap (0-Oi s now use j)=-Oi s now use j from by rw[wr (by omega) (by omega)];omega];rfl
theorem PA{a b:aD}(d:jL a)(e:jL b):dL (zcH 5000 s a b { fL:=now,iW:=use }) (zu (mh s now use a) (mh s now use b)):=by obtain ⟨_,f,_,_⟩:=Pn hs k h1 use d;obtain ⟨_,g,_,_⟩:=Pn hs k h1 use e;unfold zcH;simp only;rw[f,g,aF,aF,dL];simp only[aR,aP,aM,zC,ne_eq,zu,mh];generalize Oi s now use a=x at *;generalize Oi s now use b=y at *;refine ⟨λh=>?_,λh=>⟨λh=>?_,λh=>?_⟩⟩ <;> constructor <;> intro i <;> omega
end
theorem sl_lo{α:Type}{l:List α}{k:Nat}(h:k<=l.length):slice? l 0 (k:Int)=some (l.take k):=by unfold slice?;rw[if_pos (by omega)];simp
theorem Zo{α:Type}{l:List α}{k:Nat}(h:k<=l.length):slice? l (k:Int) (l.length:Int)=some (l.drop k):=by unfold slice?;rw[if_pos (by omega)];simp
theorem JV{s:aX}(hs:iC s)(k:bn s){now:Int}(h1:0<=now/\now<=1099511627776)(use:List Int){L:List aD}(M:∀j∈L,jL j)(hl:L.length<=300) :
  bp (Yq 5000 L s { fL:=now,iW:=use }) λr=>r.Perm L/\r.Pairwise (AD (mh s now use)):=by
 unfold Yq;refine uP L.length (λi x=>x.2=(i:Int)/\x.1.Perm (L.take i)/\x.1.Pairwise (AD (mh s now use))) (λi x f A p E=>?_) (λx f p=>?_) ⟨rfl,by simp,.nil⟩ (by omega)
 ·obtain ⟨out,n⟩:=x;obtain ⟨F,w,hw⟩:=p;simp only at F w hw;subst F;have T:out.length=i:=by rw[w.length_eq];simp;omega
  have ok:∀a∈out,jL a:=λa G=>M a (KZ (w.mem_iff.1 G));simp only;rw[if_pos (cG A)];refine QO (I:=λx=>∃m:Nat,x=(m:Int)/\m<=out.length/\∀v∈out.drop m,AD (mh s now use) L[i] v) (m:=λx=>x.toNat) (λx g Q K=>?_) ⟨out.length,rfl,bQ _,by simp⟩ (by omega);obtain ⟨m,rfl,N,O⟩:=Q;refine vC (λx=>(x=true->0<m/\∀v∈out.drop (m-1),AD (mh s now use) L[i] v)/\(x=false->∀u∈out.take m,AD (mh s now use) u L[i])) (λq P=>?_) (λx p=>?_)
  ·rw[aR];refine ⟨λh=>?_,λh=>P _ ⟨by simp,λ_ u z=>?_⟩⟩
   ·simp at h;have d:m-1<out.length:=by omega
    rw[bY A,aF,ui (x:=(m:Int)-1) (y:=((m-1:Nat):Int)) (by omega) (by omega) (by omega),bY d,aF];refine (PA hs k h1 use (M _ (bZ A)) (ok _ (bZ d))).bind λr E=>P _ ⟨λo=>⟨by omega,λv b=>?_⟩,λo u z=>?_⟩
    ·rw[ZY d,show m-1+1=m by omega] at b;rcases dO.1 b with rfl | b
     ·exact .of (E.1 o)
     ·exact O v b
    ·have e:AD (mh s now use) out[m-1] L[i]:=λg=>by rw[E.2 g] at o;simp at o
     obtain ⟨t,R,rfl⟩:=tE z;simp only[zp] at R;rw[UT];rcases FU (show t<=m-1 by omega) with S | rfl
     ·exact (Yh.1 hw t (m-1) (by omega) d S).trans e
     ·exact e
   ·simp at h;subst h;simp at z
  ·rw[aR];refine ⟨λh=>?_,λh=>?_⟩
   ·obtain ⟨o,e⟩:=p.1 h;rw[ui (x:=(m:Int)-1) (y:=((m-1:Nat):Int)) (by omega) (by omega) (by omega)];exact K _ ⟨m-1,rfl,by omega,e⟩ (by omega)
   ·have o:=p.2 (by simpa using h);rw[sl_lo N,aF,FZ (by simp;omega),aF,bY A,aF,mu (by simp;omega),aF,Zo N,aF,mu (by simp;omega),aF,bF (by omega)];refine E _ ⟨rfl,?_,?_⟩
    ·simp only;rw[Yi,cE A];refine List.Perm.trans (l₂:=out++[L[i]]) ?_ (w.append_right _)
     conv=>rhs;rw[<-Hi m out]
     rw[tD,tD];exact yBI _ yBJ
    ·simp only;have e:=Mb.1 ((Hi m out).symm▸hw:(out.take m++out.drop m).Pairwise _);rw[tD];refine Mb.2 ⟨e.1,Mb.2 ⟨List.pairwise_singleton _ _,e.2.1,λa G v b=>?_⟩,λu z v b=>?_⟩
     ·simp at G;subst G;exact O v b
     ·rcases uQ.1 b with b | b
      ·simp at b;subst b;exact o u z
      ·exact e.2.2 u z v b
 ·obtain ⟨F,w,hw⟩:=p;rw[if_neg (by rw[F];simp),aP];exact ⟨by simpa using w,hw⟩
theorem Ih{s:aX}(hs:iC s)(k:bn s){now:Int}(h1:0<=now/\now<=1099511627776)(use:List Int){L:List aD}(w:∀j∈L,jL j)(hl:L.length<40) :
  bp (zcv 5000 L s { fL:=now,iW:=use }) λr=>r.Perm L/\r.Pairwise (AD (mh s now use)):=by
 unfold zcv;rw[BZ hs k,aF,if_neg (by simp),IL (by omega),aF];refine uP L.length (λi x=>x=((i:Int),(L.map (mh s now use)).take i++List.replicate (L.length-i) (0,0,0))) (λi x f g d n=>?_) (λx f d=>?_) (by simp) (by omega)
 ·subst d;have hl:((L.map (mh s now use)).take i).length=i:=by simp;omega
  have e:List.replicate (L.length-i) ((0,0,0):K3)=(0,0,0)::List.replicate (L.length-(i+1)) (0,0,0):=by rw[show L.length-i=(L.length-(i+1))+1 by omega,List.replicate_succ]
  simp only;rw[if_pos (cG g),bY g,aF,Xx hs k h1 use (w _ (bZ g)),aF,e,cJ (by rw[hl]),aF,gF (by rw[hl]),bF (by omega)];refine n _ (by rw[Yi,cE (by simpa using g)];simp)
 ·subst d;rw[Za (by simp),YH,List.replicate_zero,DA];simp only;rw[if_neg (by simp),show Kr (α:=aD) (L.length:Int)=some [] from by unfold Kr;rw[if_pos (by omega)],aF];refine (Gh (N:=5000) (p:=L.map (mh s now use)) (by simpa using hl) (by omega)).bind λr n=>?_;obtain ⟨u,hw⟩:=n;rw[vN] at u;have z:r.length=L.length:=by rw[u.length_eq,mH]
  have m:∀x∈r,0<=x/\x<L.length:=λx d=>by have:=IG (p:=L.map (mh s now use)) (x:=x) (by rw[vN];exact u.mem_iff.1 d);simpa[IZ] using this
  let J:Int->aD:=λx=>L.getD x.toNat { Id:=0,bH:=0,Queue:=0,aZ:=0,aJ:=({ cj:=0,Mem:=0,cA:=0,cC:=0 }:aN),dY:=0,aA:=[],State:=0,Ok:=false,kf:=false,bA:=0,dy:=0,Start:=0,End:=0,Array:=0 }
  have y:∀x∈r,au L x=some (J x):=λx d=>by obtain ⟨o,e⟩:=cS (m x d).1 (m x d).2;rw[e];simp[J,LQ,o]
  refine uP r.length (λi x=>x=((i:Int),(r.map J).take i)) (λi x f g d n=>?_) (λx f d=>?_) (by simp) (by omega)
  ·subst d;have v:jL (J r[i]):=by
    have:=y _ (bZ g);obtain ⟨o,e⟩:=cS (m _ (bZ g)).1 (m _ (bZ g)).2;rw[e] at this;simp only[ab] at this;rw[<-this];exact w _ (bZ o)
   simp only;rw[if_pos (cG g),bY g,aF,y _ (bZ g),aF];have A:zaE 5000 (J r[i]).aA=some (J r[i]).aA:=FZ (by have:=v.uW;omega);rw[A,aF,mu (by simp;omega),aF,bF (by omega)];refine n _ (by rw[Yi,cE (by simpa using g)];simp)
  ·subst d;simp only;rw[if_neg (by simp),aP,Za (by simp)];have t:(KI L.length).map J=L:=by
    apply List.ext_getElem
    ·simp[KI]
    ·intro i h1 E;simp[KI,J,LQ,E]
   refine ⟨by have:=u.map J;rwa [t] at this,?_⟩;rw[List.pairwise_map];refine List.Pairwise.imp_of_mem (λ{a b} F G h=>?_) hw;have hk:∀x∈r,FY (L.map (mh s now use)) x=mh s now use (J x):=λx d=>by
    have K:=m x d;have o:x.toNat<L.length:=by omega
    simp[FY,J,LQ,o]
   unfold vf at h;rw[hk a F,hk b G] at h;exact h
theorem Pt{s:aX}(hs:iC s)(k:bn s){now:Int}(h1:0<=now/\now<=1099511627776)(use:List Int){L:List aD}(d:∀j∈L,jL j)(hl:L.length<40)(hd:∀a∈L,∀b∈L,a.Id=b.Id->a=b) :
  ∃r,zcv 5000 L s { fL:=now,iW:=use }=some r/\Yq 5000 L s { fL:=now,iW:=use }=some r/\r.Perm L:=by
 obtain ⟨e,i,p1,w1⟩:=Ih hs k h1 use d hl;obtain ⟨m,n,f,w2⟩:=JV hs k h1 use d (by omega);have:e=m:=by refine List.Perm.eq_of_pairwise (le:=AD (mh s now use)) (λa b o p h g=>?_) w1 w2 (p1.trans f.symm);refine hd a (p1.mem_iff.1 o) b (f.mem_iff.1 p) ?_;unfold AD zu mh at h g;simp only at h g;omega
 subst this;exact ⟨e,i,n,p1⟩
end Go.Plain
end
section
namespace Go.Plain
open Go.Abs
theorem Iv{l:List aD}(hl:l.length<=300)(hs:cB l){i:Nat}(b:i<l.length):Pj 5000 l l[i].Id=some (i:Int):=by obtain ⟨r,e,h1,d,_⟩:=lF hl l[i].Id;have f:0<=r:=h1.2 ⟨_,bZ b,rfl⟩;have a:=d f;have:=hs.inj a.hi b a.is;rw[e];congr 1;omega
section
variable{l:List aD}(hl:l.length<=300)(hs:cB l)
def Lr(l:List aD)(d:y_):Prop:=∃j∈l,j.Id=d.bz/\(j.State=5∨j.State=6)/\(d.Ok=true->j.State=5/\j.Ok=true)
include hl in
theorem Ge(id:Int):bp (qy 5000 id l) λr=>(r.2=false/\∀j∈l,j.Id≠id)∨∃(i:Nat)(h:i<l.length),l[i].Id=id/\r=(l[i],true):=by
 unfold qy;refine tH l (λ_ j=>j.Id≠id) (λi f h _ a=>?_) (λf h=>?_) (by omega)
 ·simp only[cG h,if_true,bY h,Option.bind_some,bF (show i<1000000 by omega),aR,aP,oQ];exact ⟨λe=>.inr ⟨i,h,e,rfl⟩,λe=>a e⟩
 ·simp only[c_,aV,bm,aP];exact .inl ⟨trivial,zY (A:=λ(j:aD)=>j.Id≠id) h⟩
include hl hs in
theorem Ex{d:y_}{i:Nat}(a:i<l.length)(e:l[i].Id=d.bz):Lr l d↔(l[i].State=5∨l[i].State=6)/\(d.Ok=true->l[i].State=5/\l[i].Ok=true):=by
 constructor
 ·rintro ⟨j,b,h1,h2,h3⟩;obtain ⟨t,f,rfl⟩:=tE b;have:=hs.inj f a (h1.trans e.symm);subst this;exact ⟨h2,h3⟩
 ·rintro ⟨h2,h3⟩;exact ⟨l[i],bZ a,e,h2,h3⟩
include hl hs in
theorem Tc(d:y_):bp (zdu 5000 d l) λr=>(r=1↔Lr l d):=by
 unfold zdu;obtain ⟨r,e,h⟩:=Ge hl d.bz;rcases h with ⟨_,h⟩ | ⟨i,b,h1,_⟩
 ·obtain ⟨x,t,u,_⟩:=lF hl d.bz;have v:x<0:=by
   rcases Int.lt_or_le x 0 with f | f
   ·exact f
   ·obtain ⟨j,g,m⟩:=u.1 f;exact absurd m (h j g)
  rw[t,aF,kh,if_pos (by simpa using v)];show bp (if true=true then _ else _) _;rw[if_pos rfl,aP];exact ⟨λh=>by omega,λ⟨j,g,m,_⟩=>absurd m (h j g)⟩
 ·rw[<-h1,Iv hl hs b,aF,kh,if_neg (by simp),bY b,aF,aF];have n:=Ex hl hs b h1;simp only[kh,Option.bind_some];rw[n];by_cases a:l[i].State=5
  ·by_cases hd:d.Ok=true
   ·by_cases p:l[i].Ok=true
    ·simp[a,hd,p,aP]
    ·simp[a,hd,p,aP]
   ·simp[a,hd,aP]
  ·by_cases o:l[i].State=6
   ·by_cases hd:d.Ok=true
    ·simp[o,hd,aP]
    ·simp[o,hd,aP]
   ·simp[a,o,aP]
include hl hs in
theorem WO{j:aD}(x:j.aA.length<=10):dL (jk 5000 j l) (∀d∈j.aA,Lr l d):=by
 unfold jk;refine FX j.aA (Lr l) _ (λh=>h) (λi f o Q h1 b=>?_) (λf h=>?_) (by omega)
 ·rw[if_pos (cG o),bY o,aF];refine (Ge hl _).bind λr m=>?_;rw[kh];rcases m with ⟨m,u⟩ | ⟨t,v,e,rfl⟩
  ·rw[if_pos (by simp[m])];show bp (if true=true then _ else _) _;rw[if_pos rfl,aP];exact b λ⟨j,w,e,_⟩=>u j w e
  ·have a:=Ex hl hs v e;unfold xU dl;simp only[Option.bind_some];rw[if_neg (by simp),bF (show i<1000000 by omega)];generalize j.aA[i]=d at *;by_cases g:l[t].State=5
   ·by_cases hd:d.Ok=true
    ·by_cases p:l[t].Ok=true
     ·simp[g,hd,p] at a ⊢;exact h1 a
     ·simp[g,hd,p,aP] at a ⊢;exact b a
    ·simp[g,hd] at a ⊢;exact h1 a
   ·by_cases n:l[t].State=6
    ·by_cases hd:d.Ok=true
     ·simp[n,hd,aP] at a ⊢;exact b a
     ·simp[n,hd] at a ⊢;exact h1 a
    ·simp[g,n,aP] at a ⊢;exact b a
 ·simp only[c_,aV,bm];exact lQ h
include hl hs in
theorem SF{j:aD}(m:j.aA.length<=10):dL (YQ 5000 j l) (∀d∈j.aA,Lr l d):=by
 unfold YQ;refine FX j.aA (Lr l) _ (λh=>h) (λi f a Q h1 e=>?_) (λf h=>?_) (by omega)
 ·rw[if_pos (cG a),bY a,aF];refine (Tc hl hs _).bind λr b=>?_;rw[aR,bF (show i<1000000 by omega)];exact ⟨λh=>aP.2 (e λg=>by simp[b.2 g] at h),λh=>h1 (b.1 (by simpa using h))⟩
 ·simp only[c_,aV,bm];exact lQ h
def vi(l:List aD)(j:aD):Bool:=(j.State == 1)&&(jk 5000 j l).getD false
include hl hs in
theorem Pz{j:aD}(a:j.aA.length<=10):∃b,jk 5000 j l=some b/\YQ 5000 j l=some b:=by
 obtain ⟨b,e,h⟩:=WO hl hs a;obtain ⟨c,d,f⟩:=SF hl hs a;have:b=c:=by rw[Bool.eq_iff_iff,h,f]
 subst this;exact ⟨b,e,d⟩
include hl hs in
theorem UD{j:aD}(a:j.aA.length<=10):Ym 5000 j l=some (vi l j):=by
 obtain ⟨b,d,e⟩:=Pz hl hs a;unfold Ym vi;rw[d,e];by_cases h:(j.State == 1)=true
 ·rw[if_pos h,h];simp
 ·rw[if_neg h];simp[h]
theorem Pd{T:Type}(st:T->Int)(met:T->Option Bool):∀l:List T,(∀a∈l,∃b,met a=some b)->xQ st met l=some (l.filter λa=>(st a == 1)&&(met a).getD false)
 |[],_=>rfl
 |a :: l, h => by
  have ih:=Pd st met l λx d=>h x (kE _ d);obtain ⟨b,e⟩:=h a (li ..);unfold xQ;rw[ih,e,aF,aF];by_cases h1:(st a == 1)=true
  ·cases b <;> simp[YD,h1,e]
  ·simp[YD,h1]
include hl hs in
theorem Im(d:∀j∈l,j.aA.length<=10):dA 5000 l=some (l.filter (vi l)):=by unfold dA Oa;rw[show Nat.ble l.length 1000000=true from Nat.ble_eq▸(by omega)];exact Pd _ _ l λa h=>by obtain ⟨b,e,_⟩:=Pz hl hs (d a h);exact ⟨b,e⟩
end
theorem JD{R:Type}{K:List aD->Option R}:∀(r b:List aD),b.length+r.length<=1000 ->
  Mc (λ(d:aD) (e:List aD) f=>
  (cL e ([d]:List aD)).bind λg=>
  f g) K r b=K (b++r)
 |[],b,_=>by simp[Mc]
 |a :: r, b, h => by simp only[List.length_cons] at h;unfold Mc;rw[mu (by simp;omega),aF,JD r _ (by simp;omega)];simp
theorem uI{R:Type}{b:(Int×Int->Option R)->Int×Int->Option R}{Q:R->Prop}{l:List aD}(hl:l.length<=300)(P:aD->Bool)
  (hs:∀f (c i:Nat) (h:i<l.length),c<=i->bp (f (((if P l[i] then c+1 else c:Nat):Int),((i+1:Nat):Int))) Q->bp (b f ((c:Int),(i:Int))) Q)
  (e:∀f,bp (b f ((l.countP P:Int),(l.length:Int))) Q):bp (bg b 5000 (0,0)) Q:=by
 refine uP l.length (λi x=>x=(((l.take i).countP P:Int),(i:Int))) (λi x f d a g=>?_) (λx f a=>?_) (by simp) (by omega)
 ·subst a;refine hs f _ i d (jI List.countP_le_length (by simp;omega)) (g _ ?_);rw[Yi,cE d,List.countP_append];simp only[Option.toList_some,List.countP_singleton];split <;> simp
 ·subst a;rw[Mw];exact e f
def hasB(x:Int):Bool:=(x == 3) || (x == 4)
theorem LX{l:List aD}(hl:l.length<=300)(q:Int):iM 5000 l q=some (l.countP λj=>(j.Queue == q)&&hasB j.State:Int):=by
 unfold iM;apply bp.eq;rw[pF];refine uI hl (λj=>(j.Queue == q)&&hasB j.State) (λf c i d e a=>?_) (λf=>?_)
 ·simp only[kh];rw[if_pos (cG d),bY d,aF,bF (show i<1000000 by omega),bF (show c<1000000 by omega)];unfold jW;by_cases h:(l[i].Queue == q)=true
  ·rw[if_pos h,aF,aF];simp only[h,UZ] at a;show bp (if hasB l[i].State=true then _ else _) _;by_cases b:hasB l[i].State=true
   ·rw[if_pos b];rw[if_pos b] at a;exact a
   ·rw[if_neg b];rw[if_neg b] at a;exact a
  ·rw[if_neg h,aF];simp only[Xs] at h;simp only[h,yCc,aV,bm] at a ⊢;exact a
 ·simp only;rw[if_neg (by simp),aP,aP]
theorem of_eq{l:List aD}(hl:l.length<=300)(q u:Int):uE 5000 l q u=some (l.countP λj=>((j.Queue == q)&&(j.bH == u))&&hasB j.State:Int):=by
 unfold uE;apply bp.eq;rw[pF];refine uI hl (λj=>((j.Queue == q)&&(j.bH == u))&&hasB j.State) (λf c i d e a=>?_) (λf=>?_)
 ·simp only[kh];rw[if_pos (cG d),bY d,aF,bF (show i<1000000 by omega),bF (show c<1000000 by omega)];unfold jW;by_cases h:((l[i].Queue == q)&&(l[i].bH == u))=true
  ·rw[if_pos h,aF,aF];simp only[h,UZ] at a;show bp (if hasB l[i].State=true then _ else _) _;by_cases b:hasB l[i].State=true
   ·rw[if_pos b];rw[if_pos b] at a;exact a
   ·rw[if_neg b];rw[if_neg b] at a;exact a
  ·rw[if_neg h,aF];simp only[Xs] at h;simp only[h,yCc,aV,bm] at a ⊢;exact a
 ·simp only;rw[if_neg (by simp),aP,aP]
theorem count_eq{l:List aD}(hl:l.length<=300)(q:Int):zcN 5000 l q (3,4) (-1)=some (l.countP λj=>(j.Queue == q)&&hasB j.State:Int):=by
 unfold zcN;apply bp.eq;refine uI hl (λj=>(j.Queue == q)&&hasB j.State) (λf c i e m a=>?_) (λf=>?_)
 ·simp only[kh];rw[if_pos (cG e),bY e,aF,bF (show i<1000000 by omega),bF (show c<1000000 by omega)];have g:(decide ((-1:Int)<0))=true:=rfl;simp only[g,Bool.true_or,if_true,aV,bm];simp only[hasB] at a;by_cases h:(l[i].Queue == q)=true
  ·rw[if_pos h];simp only[h,UZ] at a;by_cases b:(l[i].State == 3)=true
   ·rw[if_pos b];rw[if_pos (by simp[b])] at a;exact a
   ·rw[if_neg b];simp only[Xs] at b;simp only[b,yCf] at a;by_cases d:(l[i].State == 4)=true
    ·rw[if_pos d];rw[if_pos d] at a;exact a
    ·rw[if_neg d];rw[if_neg d] at a;exact a
  ·rw[if_neg h];simp only[Xs] at h;simp only[h,yCc,aV,bm] at a;exact a
 ·simp only;rw[if_neg (by simp),aP]
theorem XQ{s:aX}(hs:iC s)(k:bn s){l:List aD}(hl:l.length<=300)(j:aD) :
  ∃b,fY 5000 s l j=some b/\zdw 5000 s l j=some b:=by
 unfold fY oY zdw;by_cases m:0<=j.Queue/\j.Queue<s.ah.length
 ·obtain ⟨p,e⟩:=cS (l:=s.ah) m.1 m.2;rw[if_pos (by simpa using m),BZ hs k,aF,aF,if_neg (by simp),e,aF,if_neg (by simp;omega),aF];generalize s.ah[j.Queue.toNat]=n;rw[LX hl,of_eq hl,aF,aF];refine ⟨decide (((l.countP λi=>(i.Queue == j.Queue)&&hasB i.State:Nat):Int)<n.eR)&&decide (((l.countP λi=>((i.Queue == j.Queue)&&(i.bH == j.bH))&&hasB i.State:Nat):Int)<n.dh),?_,?_⟩
  ·by_cases h1:((l.countP λi=>(i.Queue == j.Queue)&&hasB i.State:Nat):Int)<n.eR
   ·rw[if_pos (by simpa using h1)];simp[h1]
   ·rw[if_neg (by simpa using h1)];simp[h1]
  apply bp.eq;refine uI hl (λi=>((i.Queue == j.Queue)&&(i.bH == j.bH))&&hasB i.State) (λf c i o r a=>?_) (λf=>?_)
  ·simp only[kh];rw[if_pos (cG o),bY o,bF (show i<1000000 by omega),bF (show c<1000000 by omega)];simp only[Option.bind_some,if_true,aV,bm];simp only[hasB] at a;by_cases h:(l[i].Queue == j.Queue)=true
   ·rw[if_pos h];simp only[h,UZ] at a;by_cases h1:(l[i].bH == j.bH)=true
    ·rw[if_pos h1];simp only[h1,UZ] at a;by_cases d:(l[i].State == 3)=true
     ·rw[if_pos d];rw[if_pos (by simp[d])] at a;exact a
     ·rw[if_neg d];simp only[Xs] at d;simp only[d,yCf] at a;by_cases g:(l[i].State == 4)=true
      ·rw[if_pos g];rw[if_pos g] at a;exact a
      ·rw[if_neg g];rw[if_neg g] at a;exact a
    ·rw[if_neg h1];simp only[Xs] at h1;simp only[h1,yCc,aV,bm] at a;exact a
   ·rw[if_neg h];simp only[Xs] at h;simp only[h,yCc,aV,bm] at a;exact a
  ·simp only;rw[if_neg (by simp),count_eq hl,aF,aP]
 ·rw[if_neg (by simp;omega),aF,if_pos (by simp),if_pos (by simp;omega)];exact ⟨_,rfl,rfl⟩
end Go.Plain
end
section
namespace Go.Plain
open Go.Abs
end Go.Plain
end
section
namespace Go.Plain
open Go.Abs
section
variable{l:List aD}
end
section
variable{l:List aD}
def Vs(x:Int):Prop:=x=1∨x=2
instance (x:Int):Decidable (Vs x):=by unfold Vs;infer_instance
end
structure OM (st:cg):Prop where
 cd:st.an.length<=300
 after:∀j∈st.an,j.aA.length<=10
 cu:st.aj.length<=300
 asc:GZ st.aj
 ids:∀a∈st.aj,0<=a.bz/\a.bz<=1048576
 sh:∀a∈st.aj,a.aq.length<=300
 ng:st.bI.length<=20
 use:st.iW.length<=20
 stamps:st.aG.ah.length<=20
theorem yx{s:aX}{st:cg}(hw:kk s st)(q:Gw s st):OM st:=
 ⟨hw.cd,hw.after,hw.cu,Gx q,AX q,hw.sh,hw.ng,hw.use,hw.stamps⟩
theorem xA{st:cg}(h:OM st) :
  Ts 5000 st.aG.ah st.an (st.aj.map λa=>(a.bz,a)) st.fL st.Next st.ib st.bI st.iW st.aG.aw=some st:=by
 have hl:=h.cd;have b:=h.ng;have d:=h.use;have hs:=h.stamps;unfold Ts;rw[EM (by omega) h.after,aF,show Yr 5000 (st.aj.map λa=>(a.bz,a))=some st.aj from yI h.cu h.asc h.ids h.sh,aF,vR (by omega),aF,mo (by omega),aF,show zbn 5000 st.aG.ah=some st.aG.ah from FZ (by omega),aF]
theorem HU{st:cg}(h:OM st):Wo 5000 st st=some true:=by have h1:=h.cd;have a:=h.use;have b:=h.stamps;have d:=h.ng;unfold Wo;rw[if_pos (by simp),vk _ (by omega) h.after,aF,if_pos rfl,vY _ h.cu h.sh,aF,if_pos rfl,zm _ (by omega),aF,if_pos rfl,qE _ (by omega),aF,if_pos rfl,qE _ (by omega),aF];simp
end Go.Plain
end
section
set_option maxRecDepth 100000
namespace Go.Plain
open Go.Abs
theorem G_:dS 5000=some true:=by kernel_rfl
theorem Zq(s:aX)(st:cg):bp (Yk 5000 s st) λr=>r=true->st.an.length<=30:=by
 simp only[Yk,kh];refine (Vp s).bind λr b=>?_;simp only[if_true,aP,aR];refine ⟨by simp,λh=>?_⟩;refine (UV st.an).bind λe a=>?_;simp only[aR,aP];refine ⟨by simp,λh=>?_⟩;simp only[dQ,aM,not_or,Int.not_lt,fJ,kO] at h;obtain ⟨⟨⟨⟨h,g⟩,j⟩,m⟩,n⟩:=h;have d:=a h;refine tH st.aj (λ_ q=>True) (λi f h _ b=>?_) (λf o=>?_) (by omega)
 ·simp only[cG h,if_true,bY h,Option.bind_some,bF (show i<1000000 by omega),aR,aP,aM];exact ⟨by simp,λh=>b trivial⟩
 ·simp only[c_,aV,bm,aP];exact λ_=>d.1
theorem xx{l:List aD}(hs:cB l){a b:aD}(d:a∈l)(e:b∈l)(h:a.Id=b.Id):a=b:=by obtain ⟨i,f,rfl⟩:=tE d;obtain ⟨j,g,rfl⟩:=tE e;have:=hs.inj f g h;subst this;rfl
section
variable{s:aX}{st:cg}(hw:kk s st)(q:Gw s st)(h30:st.an.length<=30)
include hw q
theorem yE{K:List aD->Option (List aD)}{P:List aD->Prop}(m:bp (K (st.an.filter (vi st.an))) P) :
  bp (bg (λn (a:Int×List aD)=>
  if (decide (a.1<(st.an.length:Int)))=true then
   jn (λ(o:List aD)=>n ((IntKind.i64.wrap (a.1+1)),o)) λg=>
   (au st.an a.1).bind λp=>
   (Ym 5000 p st.an).bind λr=>
   if r=true then
    (au st.an a.1).bind λt=>
    (cL a.2 ([t]:List aD)).bind λu=>
    g u
   else
    g a.2
  else
   K a.2) 5000 (0,([]:List aD))) P:=by
 have hl:=hw.cd;refine uP st.an.length (λi x=>x=((i:Int),(st.an.take i).filter (vi st.an))) (λi x f b d j=>?_) (λx f d=>?_) (by simp) (by omega)
 ·subst d;have v:=hw.after _ (bZ b);have w:((st.an.take i).filter (vi st.an)).length<=300:=jI (List.length_filter_le _ _) (by simp;omega);simp only[kh];rw[if_pos (cG b),bY b,aF,UD hl q.cd.dN v,aF,aF,mu (by simp;omega),aF,bF (show i<1000000 by omega)];have e:(st.an.take (i+1)).filter (vi st.an)=(st.an.take i).filter (vi st.an)++(if vi st.an st.an[i]=true then [st.an[i]] else []):=by
   rw[Yi,cE b,List.filter_append];simp only[Option.toList_some,YD,List.filter_nil]
  by_cases h:vi st.an st.an[i]=true
  ·rw[if_pos h] at e ⊢;exact j _ (by rw[e])
  ·rw[if_neg h] at e ⊢;exact j _ (by rw[e,DA])
 ·subst d;simp only;rw[if_neg (by simp),Mw];exact m
include h30
theorem MU:∃r,Zp 5000 st.aG.ah st.an (st.aj.map λa=>(a.bz,a)) s.aw s.aL s.ah s.aT s.ae.oJ s.ae.cQ s.ae.iy s.ae.bJ s.cF s.Mode s.an s.tc s.aK s.bL s.ia s.In s.Out s.cD st.fL st.Next st.ib st.bI st.iW st.aG.aw=some r /\
  zcD 5000 s st=some r/\r.length<=300/\∀j∈r,j.aA.length<=10:=by
 have hl:=hw.cd;have g:∀j∈st.an.filter (vi st.an),jL j:=λj d=>(q.cd.each j (Dv.1 d).1).ok;have e:(st.an.filter (vi st.an)).length<=30:=jI (List.length_filter_le _ _) h30;obtain ⟨r,i,m,f⟩:=Pt hw.spec q.spec (now:=st.fL) q.Ka.now st.iW g (by omega) (λa n b o h=>xx q.cd.dN (Dv.1 n).1 (Dv.1 o).1 h);refine ⟨r,?_,?_,by rw[f.length_eq];omega,λj d=>hw.after j (Dv.1 (f.mem_iff.1 d)).1⟩
 ·unfold Zp;rw[xA (yx hw q),aF,Im hl q.cd.dN hw.after,aF,JD _ _ (by simp;omega),QF,yi hw.spec,aF,i];rfl
 ·unfold zcD;apply bp.eq;exact yE hw q (K:=λl=>(Yq 5000 l s ({ fL:=st.fL,iW:=st.iW }:Yf)).bind λp=>some p) (by rw[m];exact aP.2 rfl)
omit h30 in
theorem Qv(id:Int):∃b,Yc 5000 st.aG.ah st.an (st.aj.map λa=>(a.bz,a)) id s.aw s.aL s.ah s.aT s.ae.oJ s.ae.cQ s.ae.iy s.ae.bJ s.cF s.Mode s.an s.tc s.aK s.bL s.ia s.In s.Out s.cD st.fL st.Next st.ib st.bI st.iW st.aG.aw=some b /\
  zdC 5000 s st id=some b:=by
 have hl:=hw.cd;have hs:=q.cd.dN;unfold Yc zdC;rw[xA (yx hw q),aF,Im hl hs hw.after,aF];have none:∀r:List aD,(∀j∈r,j.Id≠id)->Mc (λ(f:aD) (o:Unit) p=>
  if (f.Id == id)=true then
   (WF 5000 s.aw s.aL s.ah s.aT s.ae.oJ s.ae.cQ s.ae.iy s.ae.bJ s.cF s.Mode s.an s.tc s.aK s.bL s.ia s.In s.Out s.cD).bind λt=>
   (fY 5000 t st.an f).bind λg=>
   some g
  else
   p ()) (λ(o:Unit)=>
  some false) r ()=some false:=by
  intro r;induction r with
  |nil=>intro _;rfl
  |cons a r ih=>intro h;have:=h a (li ..);unfold Mc;rw[if_neg (by simpa using this)];exact ih λj d=>h j (kE _ d)
 have E:∀(r:List aD)(j:aD),j∈r->j.Id=id->(∀x∈r,x.Id=id->x=j)->Mc (λ(f:aD) (o:Unit) p=>
  if (f.Id == id)=true then
   (WF 5000 s.aw s.aL s.ah s.aT s.ae.oJ s.ae.cQ s.ae.iy s.ae.bJ s.cF s.Mode s.an s.tc s.aK s.bL s.ia s.In s.Out s.cD).bind λt=>
   (fY 5000 t st.an f).bind λg=>
   some g
  else
   p ()) (λ(o:Unit)=>
  some false) r ()=(fY 5000 s st.an j).bind λg=>some g:=by
  intro r;induction r with
  |nil=>intro j d;simp at d
  |cons a r ih=>
   intro j d e y;unfold Mc;by_cases h:a.Id=id
   ·have:=y a (li ..) h;subst this;rw[if_pos (by simpa using h),yi hw.spec,aF]
   ·rw[if_neg (by simpa using h)];rcases dO.1 d with rfl | d
    ·exact absurd e h
    ·exact ih j d e λx m=>y x (kE _ m)
 obtain ⟨b,O,F⟩:=Ge hl id;rcases F with ⟨_,z⟩ | ⟨i,u,e,_⟩
 ·obtain ⟨x,G,K,_⟩:=lF hl id;have m:¬(0<=x):=λL=>by obtain ⟨j,d,M⟩:=K.1 L;exact z j d M
  rw[none _ λj d=>z j (Dv.1 d).1,G,aF,if_neg (by simpa using m)];exact ⟨false,rfl,rfl⟩
 ·have A:=Iv hl hs u;rw[e] at A;have d:=bZ u;rw[A,aF,if_pos (by simp),bY u,aF,aF,UD hl hs (hw.after _ d),aF];by_cases h:vi st.an st.an[i]=true
  ·obtain ⟨c,c1,N⟩:=XQ hw.spec q.spec hl st.an[i];rw[E _ st.an[i] (Dv.2 ⟨d,h⟩) e λx m v=>xx hs (Dv.1 m).1 d (v.trans e.symm),if_pos h,c1,N];exact ⟨c,rfl,rfl⟩
  ·rw[none _ λj n w=>by
    have:=xx hs (Dv.1 n).1 d (w.trans e.symm);subst this;exact h (Dv.1 n).2,if_neg h]
   exact ⟨false,rfl,rfl⟩
end
theorem GD(w:zcE)(id:Int):zcn 5000 w id=some true:=by
 unfold zcn;rw[G_,aF,if_neg (by simp)];obtain ⟨f,e,h⟩:=Zj w.S w.St;obtain ⟨g,d,i⟩:=Zq w.S w.St;rw[e] at d;simp only[ab] at d;subst d;rw[e,aF];by_cases hl:(!f)=true
 ·rw[if_pos hl]
 rw[if_neg hl];simp only[fJ,kO] at hl;have hw:=h hl;have h30:=i hl;by_cases q:Gw w.S w.St
 ·rw[Kz hw q,aF];have a:=yx hw q;obtain ⟨r,j,m,n,o⟩:=MU hw q h30;obtain ⟨b,p,t⟩:=Qv hw q id;generalize w.S=s at *;generalize w.St=st at *;dsimp only;rw[if_neg (by simp),j,m,aF,aF,vk r n o,aF,if_pos rfl,p,t,aF,aF,if_pos (by simp),xA a,aF,HU a,aF]
 ·rw[Kh hw q,aF];rfl
end Go.Plain
end
