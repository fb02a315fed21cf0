/- TyC7, TyC8, TyC9 -/
import Derived.Test.YtidhdalhpjapaaaGreatDoorLawC
import Derived.Test.YtidhdalhpjapaaaGreatDoorLawB
import Derived.KernelRfl
set_option linter.all false
section
namespace Go.Plain
open Go.Abs
variable{s:aU}{st:bj}
def pP(st:bj)(a:dw):Int:=if a.aS > 1 then st.Next else 0
def pE(st:bj)(u:Int)(a:dw):Nat->bj
 |0=>st
 |m+1=>{ pE st u a m with ae:=(pE st u a m).ae++[Kd st u a m (pP st a)],Next:=(pE st u a m).Next+1,aj:={ ah:=DV (pE st u a m).aj.ah a.Queue,am:=(pE st u a m).aj.am } }
theorem Oe(q:aI s st){u:Int}{a:dw}(S:Cl s st u a){m:Nat}(g:(m:Int)<a.aS):bM (Kd st u a m 0):=by
 have k:=q.spec;have i:=k.v_;have l:=k.fq.hi;have n:=k.ids;have f:=q.ee.now;have o:=q.ee.next;have p:=S.user;have r:=S.queue;have t:=S.ids;have v:=S.Ov;refine ⟨?_,?_,?_,S.dem.AT,S.dem.cp,S.dem.ny,S.dem.wall,S.few,λd hd=>?_,?_,f,?_,?_,?_,⟨?_,λh=>absurd rfl h,λh=>absurd rfl h,λh=>(by cases h),λh=>(by cases h)⟩⟩
 ·show 1<=st.Next+m/\st.Next+m<=1048576;omega
 ·show 0<=u/\u<=7;omega
 ·show 0<=a.Queue/\a.Queue<=7;omega
 ·obtain ⟨j,b,e⟩:=S.after d hd;have:=(q.aR.each j b).ok.id;have:=(q.aR.each j b).next
  show 1<=d.aK/\d.aK<=st.Next+m-1;omega
 ·show (1:Int)<=1/\(1:Int)<=281474976710656;omega
 ·show (0:Int)<=0/\(0:Int)<=1099511627776;omega
 ·show (0:Int)<=0/\(0:Int)<=1099511627776;omega
 ·show (0:Int)<=0/\(0:Int)<=st.Next+m;omega
 ·show (1:Int)<=1/\(1:Int)<=6;omega
theorem FV(q:aI s st)(a:dw)(m:Nat):0<=pP st a/\pP st a<=st.Next+m:=by have:=q.ee.next;unfold pP;split <;> omega
structure SubI (s:aU) (st:bj) (m:Nat) (t:bj):Prop where
 sound:aI s t
 next:t.Next=st.Next+m
 now:t.bF=st.bF
 book:t.aO=st.aO
 cI:t.aC=st.aC
 use:t.dl=st.dl
 aW:t.ai=st.ai
 nodes:t.aj.am=st.aj.am
 len:t.ae.length=st.ae.length+m
 SS:∀j∈st.ae,j∈t.ae
theorem sub_i(q:aI s st){u:Int}{a:dw}(S:Cl s st u a):∀m:Nat,(m:Int)<=a.aS->SubI s st m (pE st u a m):=by
 intro m;induction m with
 |zero=>exact λ_=>⟨q,by simp[pE],rfl,rfl,rfl,rfl,rfl,rfl,rfl,λj b=>b⟩
 |succ m ih=>
  intro l;have I:=ih (by omega);have g:=Hi (Oe q S (m:=m) (by omega)) (FV q a m);have h:=S.user;have i:=S.queue;have n:=S.ids;have o:=S.Ov;have p:=S.room;have f:=I.next;have k:=I.len;refine ⟨?_,?_,I.now,I.book,I.cI,I.use,I.aW,I.nodes,?_,λj b=>Zk _ (I.SS j b)⟩
  ·refine QU I.sound (j:=Kd st u a m (pP st a)) (by rw[f];rfl) g (by omega) (by omega) h.2 i.2 rfl rfl (by rw[I.now];rfl) rfl rfl S.fits (λd hd=>?_) (fO I.sound.use.stamps _) (lZ _ _);obtain ⟨j,b,e⟩:=S.after d hd;exact ⟨j,I.SS j b,e⟩
  ·show (pE st u a m).Next+1=_;rw[f];omega
  ·show ((pE st u a m).ae++_).length=_;rw[Gh,k];simp;omega
theorem YO{u id b:Int}{a:dw}(h:a.ay.length<=20):ze2 1000 id u b a=some { Id:=id,az:=u,Queue:=a.Queue,aD:=a.aD,au:=a.au,aN:=a.aN,ay:=a.ay,State:=1,Ok:=false,bG:=false,ab:=1,bI:=b,Start:=0,End:=0,Array:=0 }:=by unfold ze2;rw[jk (by omega),aE]
theorem Lx(h:nr st)(d:bL st.aj.ah)(q:Int):zdL 1000 st q=some { st with aj:={ ah:=DV st.aj.ah q,am:=st.aj.am } }:=by
 have f:=h.aR;have g:=h.aW;have i:=h.cI;have j:=h.use;have k:=h.stamps;unfold zdL YY;rw[jk (by omega),jk (by omega),jk (by omega),jk (by omega),jk (by omega)];simp only[Option.bind_some,dt];unfold DV;by_cases a:0<=q/\q<st.aj.ah.length
 ·obtain ⟨b,e⟩:=ey (l:=st.aj.ah) a.1 a.2;rw[if_pos (show ((decide (q≥0))&&(decide (q<(st.aj.ah.length:Int))))=true by simp;omega),if_pos a,e,aE,GF (d _ (bR b)),aE,aE,dB b];rfl
 ·rw[if_neg (show ¬((decide (q≥0))&&(decide (q<(st.aj.ah.length:Int))))=true by simp;omega),if_neg a]
theorem PT{l:List aF}{j:aF}(p:l.length<=299)(a:∀x∈l,x.Id<j.Id){m:Int}(q:(l.length:Int)<m)(h:bM j):ze5 1000 l m j=some (l++[j],0):=by
 obtain ⟨r,er,g⟩:=GH (l:=l) (by omega) (id:=j.Id) λx b e=>by have:=a x b;omega
 have k:decide (r≥0)=false:=by simp;omega
 have n:decide ((l.length:Int)≥m)=false:=by simp;omega
 unfold ze5;rw[AY h,aE,if_neg (by simp),er,aE];simp only[k,n,a_,bn];refine ce.eq (oe l.length (λi x=>x=(i:Int)) (λi x f d b g=>?_) (λx f b=>?_) rfl (by omega))
 ·subst b;have:=a _ (bR d);have o:decide (l[i].Id<j.Id)=true:=by simpa using this
  simp only[cK d,if_true,cj d,Option.bind_some,dt,o,bV (show i<1000000 by omega)];exact g _ rfl
 ·subst b;simp only[cM,a_,bn,dt];rw[lY (by omega),aE,DO,jk (by omega),aE,dx (by simp;omega),aE,lH (by omega),List.drop_length,aE,dx (by simp;omega),aE,Zr];exact ⟨_,rfl,rfl⟩
theorem Xg(h:nr st)(d:st.ae.length<=299)(e:bL st.aj.ah){j:aF}(a:∀x∈st.ae,x.Id<j.Id)(f:(st.ae.length:Int)<s.ae)(b:bM j)(g:j.State=1)(i:j.Id=st.Next)(k:j.ab=1)(m:st.Next<=s.eJ) :
  zb8 1000 s st j=some ({ st with ae:=st.ae++[j],Next:=st.Next+1,aj:={ ah:=DV st.aj.ah j.Queue,am:=st.aj.am } },0):=by
 have n:=b.id;have l:decide (st.Next > s.eJ)=false:=by simp;omega
 unfold zb8;rw[AY b,aE,if_neg (show ¬((((!true) || (j.State != 1)) || (j.Id != st.Next)) || (j.ab != 1))=true by simp[g,i,k]),l,if_neg (by simp),PT d a f b,aE];dsimp only;rw[if_neg (by simp),Lx h e,aE];dsimp only;rw[wr (by omega) (by omega)]
theorem Lp{u:Int}{a:dw}{m:Nat}(d:a.ay.length<=20)(b:bM (Kd st u a m 0)):Be 1000 (st.Next+m) u st.bF a=some (Kd st u a m 0,0):=by unfold Be;show (Qy 1000 (Kd st u a m 0)).bind _=_;rw[zfa b,aE,if_neg (by simp),show Xq 1000 a.ay=some a.ay from jk (by omega),aE];rfl
theorem Bq{s:aU}{st:bj}(q:aI s st):nr st:=JR (kF q) q
theorem do24(N:dN s st)(q:aI s st)(c:pB)(A:c.aa.ay.length<=20) :
  ∃ st' a, eQ 1000 s st c = some (st', a) /\ Good s st 1 st' a /\ st'.aO = st.aO /\ st'.aC = st.aC /\ st'.ai = st.ai /\ st'.aj.am = st.aj.am /\
   Uv s st c.az c.aa=some (st'.aj.ah,st'.ae,a,st'.Next):=by
 have hs:=N.spec;have k:=q.spec;have h:=Bq q;have Z:=k.aR;have ki:=k.ids;have O:=q.ee.next;obtain ⟨e,M,Q,R⟩:=Xb hs k h O c A;unfold Uv e_ eQ;change zcR 1000 _ _ _ _ _ _ _ _ _ _ _ _ _ _ _ _ _ _ _ _ _ _ _ _ _ _ _ _ _=_ at M;rw[M,Q,aE,aE];by_cases E:e=0
 rotate_left
 ·have d:(e != 0)=true:=by simpa using E
  simp only[d,if_true,Vn,Option.bind_some];exact ⟨st,_,rfl,.no q (by simp),rfl,rfl,rfl,rfl,rfl⟩
 have d:(e != 0)=false:=by simpa using E
 simp only[d,a_,bn];have S:=R E;have a3:=S.ids;have a4:=S.Ov;have a5:=S.room;obtain ⟨T,w⟩:∃T:Nat,c.aa.aS=(T:Int):=⟨c.aa.aS.toNat,by omega⟩;have I:=sub_i q S;have o:=I T (by omega);refine ⟨pE st c.az c.aa T,{ Key:=c.aa.Key,ko:=0,aK:=st.Next,ab:=1,cP:=[c.aa.aS] },?_,⟨o.sound,λy=>?_,by simp,o.now,o.use⟩,o.book,o.cI,o.aW,o.nodes,?_⟩
 ·refine ce.eq (oe T (λi x=>x=((i:Int),(pE st c.az c.aa i).bF,(pE st c.az c.aa i).Next,(pE st c.az c.aa i).aO,(pE st c.az c.aa i).ae,(pE st c.az c.aa i).ai,(pE st c.az c.aa i).aC,(pE st c.az c.aa i).dl,(pE st c.az c.aa i).aj.ah,(pE st c.az c.aa i).aj.am)) (λi x f t b u=>?_) (λx f b=>?_) rfl (by omega))
  ·subst b;have J:=I i (by omega);have F:=Oe q S (m:=i) (by omega);have p:=Hi F (FV q c.aa i);have g:=J.next;have U:=J.len;dsimp only;rw[show decide ((i:Int)<c.aa.aS)=true from by rw[w];exact cK t,if_pos rfl,YO A,aE];have P:=Xg (s:=s) (Bq J.sound) (by omega) J.sound.use.stamps (j:=Kd st c.az c.aa i (pP st c.aa)) (λx b=>by have:=(J.sound.aR.each x b).next;show x.Id<st.Next+i;omega) (by omega) p rfl (by rw[g];rfl) rfl (by omega);have v:∀a:Int,a=pP st c.aa->ce ((zb8 1000 s ({ bF:=(pE st c.az c.aa i).bF,Next:=(pE st c.az c.aa i).Next,aO:=(pE st c.az c.aa i).aO,ae:=(pE st c.az c.aa i).ae,ai:=(pE st c.az c.aa i).ai,aC:=(pE st c.az c.aa i).aC,dl:=(pE st c.az c.aa i).dl,aj:=({ ah:=(pE st c.az c.aa i).aj.ah,am:=(pE st c.az c.aa i).aj.am }:EN) }:bj)
     ({ Id:=(pE st c.az c.aa i).Next,az:=c.az,Queue:=c.aa.Queue,aD:=c.aa.aD,au:=c.aa.au,aN:=c.aa.aN,ay:=c.aa.ay,State:=1,Ok:=false,bG:=false,ab:=1,bI:=(pE st c.az c.aa i).bF,Start:=0,End:=0,Array:=a }:aF)).bind λl=>
     f ((IntKind.i64.wrap ((i:Int)+1)),l.1.bF,l.1.Next,l.1.aO,l.1.ae,l.1.ai,l.1.aC,l.1.dl,l.1.aj.ah,l.1.aj.am)) λx=>x=(pE st c.az c.aa T,{ Key:=c.aa.Key,ko:=0,aK:=st.Next,ab:=1,cP:=[c.aa.aS] }):=λa G=>by
    subst G;rw[g,J.now];change ce ((zb8 1000 s (pE st c.az c.aa i) (Kd st c.az c.aa i (pP st c.aa))).bind _) _;have W:zb8 1000 s (pE st c.az c.aa i) (Kd st c.az c.aa i (pP st c.aa))=some (pE st c.az c.aa (i+1),0):=P;rw[W,aE,bV (by omega)];exact u _ rfl
   dsimp only[dt];by_cases n:c.aa.aS > 1
   ·rw[if_pos (by simpa using n)];exact v _ (by unfold pP;rw[if_pos n])
   ·rw[if_neg (by simpa using n)];exact v _ (by unfold pP;rw[if_neg n])
  ·subst b;dsimp only;rw[show decide ((T:Int)<c.aa.aS)=false from by rw[w];exact cM,if_neg (by simp),bA]
 ·rcases y with y | y
  ·exact absurd rfl y
  ·omega
 ·rw[oY h,aE];unfold SG;rw[if_pos (by omega),aE];refine ce.eq (oe T (λi x=>x=((i:Int),(List.range i).map λm=>Kd st c.az c.aa m (pP st c.aa))) (λi x f t b u=>?_) (λx f b=>?_) rfl (by omega))
  ·subst b;have F:=Oe q S (m:=i) (by omega);dsimp only;rw[show decide ((i:Int)<c.aa.aS)=true from by rw[w];exact cK t,if_pos rfl,wr (x:=st.Next+(i:Int)) (by omega) (by omega),Lp A F,aE];dsimp only[dt];rw[if_neg (by simp)];have v:∀a:Int,a=pP st c.aa->ce ((bU ((List.range i).map λm=>Kd st c.az c.aa m (pP st c.aa)) [Kd st c.az c.aa i a]).bind λz=>f (IntKind.i64.wrap ((i:Int)+1),z)) λx=>x=((pE st c.az c.aa T).aj.ah,(pE st c.az c.aa T).ae,{ Key:=c.aa.Key,ko:=0,aK:=st.Next,ab:=1,cP:=[c.aa.aS] },(pE st c.az c.aa T).Next):=λa G=>by
    subst G;rw[dx (by simp;omega),aE,bV (by omega)];exact u _ (by rw[List.range_succ,Wv];rfl)
   by_cases n:c.aa.aS > 1
   ·rw[if_pos (by simpa using n)];exact v _ (by unfold pP;rw[if_pos n])
   ·rw[if_neg (by simpa using n)];exact v _ (by unfold pP;rw[if_neg n];rfl)
  ·subst b;dsimp only;rw[show decide ((T:Int)<c.aa.aS)=false from by rw[w];exact cM,if_neg (by simp)];have r:((List.range T).map λm=>Kd st c.az c.aa m (pP st c.aa)).length=T:=by simp
   generalize X:((List.range T).map λm=>Kd st c.az c.aa m (pP st c.aa))=L at r;refine oe T (λi x=>x=((i:Int),(pE st c.az c.aa i).Next,(pE st c.az c.aa i).aj.ah,(pE st c.az c.aa i).ae)) (λi x f t b u=>?_) (λx f b=>?_) rfl (by omega)
   ·subst b;have J:=I i (by omega);have p:=Hi (Oe q S (m:=i) (by omega)) (FV q c.aa i);have g:=J.next;have U:=J.len;have K:i<L.length:=by omega
    have Y:L[i]=Kd st c.az c.aa i (pP st c.aa):=by subst X;simp
    dsimp only;rw[r,cK t,if_pos rfl,cj K,aE,Y,Qv (by omega) J.sound.aR.aY (λx b=>by have:=(J.sound.aR.each x b).next;show x.Id<st.Next+i;omega) (by omega) p rfl (by rw[g];rfl) rfl (by omega) J.sound.use.stamps,aE];dsimp only;rw[if_neg (by simp),bV (by omega)];exact u _ rfl
   ·subst b;dsimp only;rw[r,cM,if_neg (by simp),bA]
end Go.Plain
end
section
namespace Go.Plain
open Go.Abs
variable{s:aU}{st:bj}
theorem YF{α:Type}{l m:List α}{z:α}(h:l.length=m.length+1):(By l m 0 l.length)=m++[l[m.length]'(by omega)]:=by have a:m.take l.length=m:=yBy (by omega);simp only[By,a,List.take_zero,List.nil_append,N_];congr 1;rw[yB3 (by omega),yBf (by omega)]
theorem RZ{l:List cg}{n:Int}{b:cg}(i:l.length<16)(f:uF l n)(g:Mq n b)(d:∀x∈l,x.Id<b.Id)(e:¬∃x∈l,kk x b.Node b.bE b.To):xT 1000 l n b=some (l++[b],0):=by
 unfold xT;simp only[dt];rw[i_ (CB l n (by omega)) f,aE,if_neg (by simp),i_ (Ij b n) g,aE,if_neg (by simp),if_neg (by simp;omega),yj (lQ l b.Node b.bE b.To (by omega)) e];have w:IntKind.i64.wrap ((l.length:Int)+1)=((l.length+1:Nat):Int):=bV (by omega);have fin:(PJ ({ Id:=0,Node:=0,bE:=0,To:=0 }:cg) ((l.length+1:Nat):Int) ((l.length+1:Nat):Int)).bind (λa=>(aL (By a l 0 a.length) (l.length:Int)).bind λj=>some (((By a l 0 a.length).set (l.length:Int).toNat b),(0:Int)))=some (l++[b],0):=by unfold PJ;rw[if_pos (by omega),aE,YF (z:=b) (by simp),cj (by simp),aE];simp
 rw[w];simp only[Option.bind_some,a_,bn,fin];split
 ·rename_i h;simp only[bb] at h;obtain ⟨m,e⟩:∃m,l.length=m+1:=⟨l.length-1,by omega⟩;have w2:IntKind.i64.wrap ((l.length:Int)-1)=(m:Int):=by rw[e];exact wp1 (by omega)
  rw[w2,cj (show m<l.length by omega),aE,if_neg];have:=d _ (bR (show m<l.length by omega));simp only[bb];omega
 ·rfl
theorem Mp{l:List cg}(G:l.length<=16)(id:Int) :
  (∃i,i<l.length/\li 1000 l id=some (l.take i++l.drop (i+1),0)/\zcn 1000 l id=some (l.take i++l.drop (i+1),true))∨(li 1000 l id=some ([],30)/\zcn 1000 l id=some ([],false)):=by
 by_cases h:∃b∈l,b.Id=id
 ·have q:∃i,∃j:i<l.length,(l[i].Id == id)=true/\∀m (o:m<i),(l[m]'(Nat.lt_trans o j)).Id≠id:=by
   have j:l.findIdx (λb=>b.Id == id)<l.length:=by obtain ⟨b,v,e⟩:=h;exact List.findIdx_lt_length_of_exists ⟨b,v,by simpa using e⟩
   exact ⟨_,j,List.findIdx_getElem (w:=j),λm o=>by have:=List.not_of_lt_findIdx o;simpa using this⟩
  obtain ⟨i,j,p,d⟩:=q;refine .inl ⟨i,?_⟩;have w2:IntKind.i64.wrap ((i:Int)+1)=((i+1:Nat):Int):=bV (by omega);refine ⟨j,?_,?_⟩
  ·unfold li;refine ce.eq (oe i (λk x=>x=(k:Int)) (λk x f hk a n=>?_) (λx f a=>?_) rfl (by omega))
   ·subst a;have g:k<l.length:=by omega
    simp only[cK g,if_true,cj g,Option.bind_some];rw[if_neg (by simpa using d k hk),bV (by omega)];exact n _ rfl
   ·subst a;obtain ⟨m,o⟩:∃m,l.length=m+1:=⟨l.length-1,by omega⟩;have w1:IntKind.i64.wrap ((l.length:Int)-1)=(m:Int):=by rw[o];exact wp1 (by omega)
    have r:(l.take i).length=i:=by rw[uC];omega
    have y:(l.drop (i+1)).length=m-i:=by rw[xAg];omega
    simp only[cK j,if_true,cj j,Option.bind_some,p,w1,w2,PJ];rw[if_pos (by omega),aE,lY (by omega),aE,xAb,List.length_replicate];have z:By (List.replicate m ({ Id:=0,Node:=0,bE:=0,To:=0 }:cg)) (l.take i) 0 m=l.take i++List.replicate (m-i) ({ Id:=0,Node:=0,bE:=0,To:=0 }:cg):=by have t:(l.take i).take m=l.take i:=yBy (by omega);simp only[By,t,List.take_zero,List.nil_append,N_,r,List.drop_replicate]
    rw[z];have u:(l.take i++List.replicate (m-i) ({ Id:=0,Node:=0,bE:=0,To:=0 }:cg)).length=m:=by rw[Gh,r,List.length_replicate];omega
    rw[u];have A:slice? (l.take i++List.replicate (m-i) ({ Id:=0,Node:=0,bE:=0,To:=0 }:cg)) (i:Int) (m:Int)=some ((l.take i++List.replicate (m-i) ({ Id:=0,Node:=0,bE:=0,To:=0 }:cg)).drop i):=by
     have:=lH (l:=l.take i++List.replicate (m-i) ({ Id:=0,Node:=0,bE:=0,To:=0 }:cg)) (i:=i) (by omega)
     rwa [u] at this
    rw[A,aE,lH (by omega),aE,bA];have E:By (l.take i++List.replicate (m-i) ({ Id:=0,Node:=0,bE:=0,To:=0 }:cg)) (l.drop (i+1)) i (m-i)=l.take i++l.drop (i+1):=by have t:(l.drop (i+1)).take (m-i)=l.drop (i+1):=yBy (by omega);simp only[By,t,y];have F:(l.take i++List.replicate (m-i) ({ Id:=0,Node:=0,bE:=0,To:=0 }:cg)).drop (i+(m-i))=[]:=yBf (by rw[u];omega);rw[List.take_left' r,F,Zr]
    rw[xAb,xAb,E]
  ·unfold zcn;refine ce.eq (oe i (λk x=>x=(k:Int)) (λk x f hk a n=>?_) (λx f a=>?_) rfl (by omega))
   ·subst a;have g:k<l.length:=by omega
    simp only[cK g,if_true,cj g,Option.bind_some];rw[if_neg (by simpa using d k hk),bV (by omega)];exact n _ rfl
   ·subst a;simp only[cK j,if_true,cj j,Option.bind_some,p,w2];rw[lY (by omega),aE,jk (by rw[uC];omega),aE,lH (by omega),aE,dx (by rw[uC,xAg];omega),aE,bA]
 ·refine .inr ⟨?_,?_⟩
  ·unfold li;refine ce.eq (oe l.length (λk x=>x=(k:Int)) (λk x f hk a n=>?_) (λx f a=>?_) rfl (by omega))
   ·subst a;simp only[cK hk,if_true,cj hk,Option.bind_some];rw[if_neg (by simpa using λe=>h ⟨_,bR hk,e⟩),bV (by omega)];exact n _ rfl
   ·subst a;simp only[cM,a_,bn,bA]
  ·unfold zcn;refine ce.eq (oe l.length (λk x=>x=(k:Int)) (λk x f hk a n=>?_) (λx f a=>?_) rfl (by omega))
   ·subst a;simp only[cK hk,if_true,cj hk,Option.bind_some];rw[if_neg (by simpa using λe=>h ⟨_,bR hk,e⟩),bV (by omega)];exact n _ rfl
   ·subst a;simp only[cM,a_,bn,bA]
def RB2(x b:cg):Prop:=x.Id<b.Id/\¬kk x b.Node b.bE b.To
theorem uQ{l:List cg}{n:Int}:uF l n↔l.length<=16/\(∀b∈l,Mq n b)/\l.Pairwise RB2:=by
 constructor
 ·intro h;refine ⟨h.len,λb f=>?_,ZA.2 λi j a g d=>(h.each j g).up i a d⟩;obtain ⟨i,a,rfl⟩:=pD f;exact (h.each i a).one
 ·rintro ⟨h1,h2,h3⟩;exact ⟨h1,λi a=>⟨h2 _ (bR a),λx k e=>ZA.1 h3 x i k a e⟩⟩
theorem Ad(q:aI s st){n:Int}{B:List cg}(d:1<=n/\n<=281474976710656)(f:xY s { st with aO:=n,aC:=B }):aI s { st with aO:=n,aC:=B }:=by
 obtain ⟨R,H⟩:=sA q.spec q.aR q.aW;have J:cJ s { st with aO:=n,aC:=B }:=⟨q.aR.len,λj b=>(q.aR.each j b).up (yBY _) rfl,q.aR.aY⟩;refine ⟨q.spec,⟨q.ee.now,q.ee.next,d⟩,J,λj b g=>?_,GP q.spec J ⟨λi k=>?_,R.fit⟩ λj b=>?_,f,⟨q.use.len,q.use.use,q.use.LM,q.use.nodes,q.use.stamps⟩⟩
 ·have w:=q.waits j b g;exact ⟨w.fits,w.after⟩
 ·have A:=R.each i k;exact ⟨A.up,A.Au,A.shares,A.cp⟩
 ·have h:=H j b;exact ⟨h.has,λa l e=>(h.KY a l e).up rfl⟩
theorem Ma(q:aI s st)(i:Nat):aI s { st with aC:=st.aC.take i++st.aC.drop (i+1) }:=by
 have sub:(st.aC.take i++st.aC.drop (i+1)).Sublist st.aC:=by
  have f:=List.Sublist.append (List.Sublist.refl (st.aC.take i)) (List.drop_sublist_drop_left st.aC (Nat.le_succ i))
  rwa [List.take_append_drop] at f
 obtain ⟨g,h,k⟩:=uQ.1 q.cE.cI;refine Ad (n:=st.aO) q q.ee.book ⟨uQ.2 ⟨mA sub.length_le g,λb d=>h b (sub.subset d),k.sublist sub⟩,λb d=>q.cE.live b (sub.subset d),λa l j m e x o b d=>q.cE.Aj a l j m e x o b (sub.subset d)⟩
theorem PG(q:aI s st){b:cg}(u:st.aC.length<16)(i:b.Id=st.aO)(v:st.aO<281474976710656)(o:Mq s.am.length b)(n:¬∃x∈st.aC,kk x b.Node b.bE b.To)(p:¬∃a∈st.ai,fW st b.Node b.bE a)(w:st.bF<=b.bE) :
  aI s { st with aO:=st.aO+1,aC:=st.aC++[b] }:=by
 have z:=q.ee.book;have A:=o.span;obtain ⟨E,r,t⟩:=uQ.1 q.cE.cI;refine Ad q (by omega) ⟨uQ.2 ⟨by simp;omega,λx d=>?_,List.pairwise_append.2 ⟨t,List.pairwise_singleton _ _,λx d y f=>?_⟩⟩,λx d=>?_,λa k j l e x d y f g=>?_⟩
 ·rcases zC.1 d with d | d
  ·exact r x d
  ·rw[Kz] at d;subst d;exact o
 ·rw[Kz] at f;subst f;exact ⟨by rw[i];exact (q.cE.live x d).1,λm=>n ⟨x,d,m⟩⟩
 ·show x.Id<st.aO+1/\st.bF<x.To;rcases zC.1 d with d | d
  ·have:=q.cE.live x d;omega
  ·rw[Kz] at d;subst d;omega
 ·rcases zC.1 f with f | f
  ·exact q.cE.Aj a k j l e x d y f g
  ·rw[Kz] at f;subst f;exact λh=>p ⟨a,k,j,l,e,⟨x,d,g.symm⟩,h⟩
theorem JZ(o:dN s st)(q:aI s st)(node d:Int):dv (zck 1000 st.ae (st.ai.map λa=>(a.aK,a)) node d) (∃a∈st.ai,fW st node d a):=by
 have Y:=o.aR;have P:=o.aW;unfold zck;rw[show VE 1000 (st.ai.map λa=>(a.aK,a))=some st.ai from wQ o.aW (nC q) (uL q) o.sh,aE];refine uK st.ai (λ_ a=>¬fW st node d a) (λi f y _ z=>?_) (λf h=>?_) (by omega)
 ·have v:=bR y;have Q:=o.sh _ v;simp only[dt,cK y,if_true,cj y,Option.bind_some,bV (show i<1000000 by omega)];rcases zL st.ae st.ai[i].aK with ⟨m,k,e⟩ | p
  ·have E:=(q.aR.each _ (bR k)).ok;have R:=E.cw;have S:=E.start;have Z:=E.wall;rw[<-e,get_some (by omega) q.aR.aY k (by omega),aE];dsimp only;rw[wr (by omega) (by omega),bD];have T:∀j∈st.ae,j.Id=st.ai[i].aK->j=st.ae[m]:=λj l r=>by
    obtain ⟨n,U,rfl⟩:=pD l;have:=q.aR.aY.inj U k (by rw[r,e]);subst this;rfl
   refine ⟨λh=>z λ⟨j,l,r,_,F⟩=>?_,λh=>?_⟩
   ·rw[T j l r] at F;simp at h;omega
   ·simp only[zM,yBB,bb] at h;have G:dv ((ca (λW (w:Int)=>
       if (decide (w<(st.ai[i].an.length:Int)))=true then
        (aL st.ai[i].an w).bind λK=>
        if (K.Node == node)=true then
         some w
        else
         W (IntKind.i64.wrap (w+1))
       else
        some (-1)) 1000 0).bind λL=>some (decide (L≥0))) (∃x∈st.ai[i].an,x.Node=node):=by
     rw[dv,lM];refine uK st.ai[i].an (λ_ x=>x.Node≠node) (λm g k _ M=>?_) (λg M=>?_) (by omega)
     ·simp only[cK k,if_true,cj k,Option.bind_some,bV (show m<1000000 by omega),bD,lm,bA,bb];exact ⟨λe=>⟨λ_=>⟨_,bR k,e⟩,λ_=>by omega⟩,λe=>(M e).mono λb X=>by simpa only[bA,bb] using X⟩
     ·simp only[cM,a_,bn,bA,bb];exact ⟨λh=>by omega,λ⟨x,N,e⟩=>absurd e (AQ (A:=λx=>x.Node≠node) M x N)⟩
    refine G.bind λr3 u=>?_;rw[bD];refine ⟨λO=>oP ⟨_,v,_,bR k,e,u.1 O,by omega⟩,λO=>z λ⟨j,l,e,N,_⟩=>O (u.2 N)⟩
  ·rw[get_none (by omega) q.aR.aY p,aE];dsimp only;rw[if_pos (by simp)];exact z λ⟨j,l,r,_,_⟩=>p j l r
 ·simp only[cM,a_,bn];exact cy λ⟨a,v,t⟩=>AQ (A:=λa=>¬fW st node d a) h a v t
theorem Hm(e:dN s st)(q:aI s st)(node d:Int):dv (zb3 1000 st node d) (∃a∈st.ai,fW st node d a):=
 (FM e (sA q.spec q.aR q.aW).1 node d).mono λb f=>f q.aR
theorem LD(g:dN s st)(q:aI s st){node a b:Int}(i:0<=node/\node<s.am.length)(k:b<=1099511627776) :
  ∃ st' id e, zc6 1000 s st (node, a, b) = some (st', id, e) /\ zbj 1000 st.ae (st.ai.map λa => (a.aK, a)) node a b s.am st.bF st.aO st.aC = some (id, e, st'.aO, st'.aC) /\
   aI s st'/\st'={ st with aO:=st'.aO,aC:=st'.aC }/\(e≠0->st'=st):=by
 have K:=q.ee.now;have t:=q.ee.book;have L:=g.cI;have f:∀e:Int,∀p:Prop,aI s st/\st={ st with aO:=st.aO,aC:=st.aC }/\(e≠0->st=st):=λe p=>⟨q,rfl,λ_=>rfl⟩;unfold zc6 zbj;have u:(decide (node<0) || decide (node≥(s.am.length:Int)))=false:=by simp;omega
 dsimp only[dt];simp only[u,yBB,a_,bn];by_cases c1:st.bF<=a/\a<b
 rotate_left
 ·have d:(decide (a<st.bF) || decide (b<=a) || decide (b > 1099511627776))=true:=by simp;omega
  rw[if_pos d];refine ⟨st,0,2,?_,rfl,f 2 True⟩;by_cases j:a<st.bF
  ·rw[if_pos (by simpa using j)];rfl
  ·rw[if_neg (by simpa using j),if_pos (by simp;omega)];rfl
 have d:(decide (a<st.bF) || decide (b<=a) || decide (b > 1099511627776))=false:=by simp;omega
 have j:decide (a<st.bF)=false:=by simp;omega
 have v:decide (b<=a)=false:=by simp;omega
 have w:decide (b > 1099511627776)=false:=by simp;omega
 simp only[j,v,w,Bool.or_false,a_,bn];by_cases l:st.aC.length<16/\st.aO<281474976710656
 rotate_left
 ·have m:(decide ((st.aC.length:Int)≥16) || (st.aO == 281474976710656))=true:=by simp;omega
  have n:(decide ((st.aC.length:Int)≥16) || decide (st.aO≥281474976710656))=true:=by simp;omega
  simp only[m,n,if_true];exact ⟨st,0,3,rfl,rfl,f 3 True⟩
 have m:(decide ((st.aC.length:Int)≥16) || (st.aO == 281474976710656))=false:=by simp;omega
 have n:(decide ((st.aC.length:Int)≥16) || decide (st.aO≥281474976710656))=false:=by simp;omega
 simp only[m,n,a_,bn];rw[(Fh st.aC node a b (by omega)).same (lQ st.aC node a b (by omega)),(Hm g q node a).same (JZ g q node a)];obtain ⟨y,m1,z⟩:=lQ st.aC node a b (by omega);obtain ⟨A,E,F⟩:=JZ g q node a;rw[m1,E];simp only[Option.bind_some];cases y with
 |true=>exact ⟨st,0,39,rfl,rfl,f 39 True⟩
 |false=>
  simp only[a_,bn];cases A with
  |true=>exact ⟨st,0,39,rfl,rfl,f 39 True⟩
  |false=>
   have r:¬∃x∈st.aC,kk x node a b:=λh=>by have:=z.2 h;cases this
   have nt:¬∃x∈st.ai,fW st node a x:=λh=>by have:=F.2 h;cases this
   have o:Mq s.am.length { Id:=st.aO,Node:=node,bE:=a,To:=b }:=⟨t,i,by show 0<=a;omega,c1.2,k⟩;have M:=g.aR;have N:=g.aW;have O:=g.use;have P:=g.stamps;simp only[a_,bn];rw[RZ l.1 q.cE.cI o (λx G=>(q.cE.live x G).1) r,aE];dsimp only;rw[if_neg (by simp),wr (x:=st.aO+1) (by omega) (by omega)];refine ⟨{ st with aO:=st.aO+1,aC:=st.aC++[{ Id:=st.aO,Node:=node,bE:=a,To:=b }] },st.aO,0,?_,rfl,PG q l.1 rfl l.2 o r nt c1.1,rfl,λh=>absurd rfl h⟩;unfold YY;rw[jk (by omega),jk (by omega),jk (by omega),jk (by omega),jk (by omega)];simp only[Option.bind_some];rw[dx (by simp;omega),aE,wr (x:=st.aO+1) (by omega) (by omega)]
abbrev Lf(s:aU)(st:bj)(u:Int)(b:dw):=
 zeZ 1000 st.ae (st.ai.map λa=>(a.aK,a)) u b s.am s.aQ s.ah s.aG s.ar.pF s.ar.dh s.ar.jT s.ar.bX s.bZ s.Mode s.ae s.eJ s.aB s.bC s.dg s.In s.Out s.bW st.bF st.aO st.aC
theorem copy_eq(h:nr st):zen 1000 st=some st:=by have a:=h.aR;have b:=h.aW;have d:=h.cI;have e:=h.use;have f:=h.stamps;unfold zen;rw[jk (by omega),jk (by omega),jk (by omega),jk (by omega),jk (by omega)];rfl
theorem do28(w:dN s st)(q:aI s st)(c:pB)(hk:c.aa.Kind=11∨c.aa.Kind=12)(N:0<=c.az/\c.az<s.aG) :
  ∃st' a,eS 1000 s st c=some (st',a)/\Good s st c.aa.Kind st' a/\st'={ st with aO:=st'.aO,aC:=st'.aC }/\Lf s st c.az c.aa=some (a,st'.aO,st'.aC):=by
 have hs:=w.spec;have k:=q.spec;have n:=q.cE.cI.len;have O:¬(8<=c.aa.Kind/\c.aa.Kind<=10):=by omega
 unfold Lf zeZ zcX eS fD;have A:((c.aa.Kind != 11)&&(c.aa.Kind != 12))=false:=by rcases hk with h | h <;> simp[h]
 have E:decide (c.az<0)=false:=by simp;omega
 have F:decide (c.az≥s.aG)=false:=by simp;omega
 simp only[A,E,F,Bool.or_false,a_,bn,dt,OR hs,Option.bind_some,Q_];have no:∀e:Int,e≠0->∃st' a,(some (st,({ Key:=c.aa.Key,ko:=e,aK:=0,ab:=0,cP:=[] }:eC)):Option (bj×eC))=some (st',a)/\Good s st c.aa.Kind st' a/\st'={ st with aO:=st'.aO,aC:=st'.aC }/\(some (({ Key:=c.aa.Key,ko:=e,aK:=0,ab:=0,cP:=[] }:eC),st.aO,st.aC):Option (eC×Int×List cg))=some (a,st'.aO,st'.aC):=λe P=>⟨st,_,rfl,.no q (by simp),rfl,rfl⟩
 by_cases x:c.az=0
 rotate_left
 ·have o:(c.az != 0)=true:=by simpa using x
  have p:decide (c.az > 0)=true:=by simp;omega
  simp only[o,p,if_true,Rj,Option.bind_some,show ((33:Int) == 0)=false from rfl,Bool.false_and,a_,bn,show ((33:Int) != 0)=true from rfl,Vn];exact no 33 (by decide)
 have o:(c.az != 0)=false:=by simpa using x
 have p:decide (c.az > 0)=false:=by simp;omega
 simp only[o,p,a_,bn,Rj,if_true];rcases hk with h | h
 ·simp only[h,show ((11:Int) == 12)=false from rfl,show ((11:Int) == 11)=true from rfl,a_,bn,if_true,IM,Bool.and_false];unfold zcw;simp only[OR hs,Option.bind_some,dt,Q_,Rj,if_true];rw[h] at no;by_cases c1:0<=c.aa.Node/\c.aa.Node<s.am.length
  rotate_left
  ·have l:(decide (c.aa.Node<0) || decide (c.aa.Node≥(s.am.length:Int)))=true:=by simp;omega
   simp only[l,if_true,Option.bind_some,show ((30:Int) == 0)=false from rfl,a_,bn,show ((30:Int) != 0)=true from rfl,Vn];by_cases f:c.aa.Node<0
   ·rw[if_pos (by simpa using f)];exact no 30 (by decide)
   ·rw[if_neg (by simpa using f),if_pos (by simp;omega)];exact no 30 (by decide)
  have l:decide (c.aa.Node<0)=false:=by simp;omega
  have f:decide (c.aa.Node≥(s.am.length:Int))=false:=by simp;omega
  simp only[l,f,Bool.or_false,a_,bn];by_cases y:c.aa.To > 1099511627776
  ·have m:decide (c.aa.To > 1099511627776)=true:=by simpa using y
   simp only[m,if_true,Option.bind_some,show ((38:Int) == 0)=false from rfl,a_,bn,show ((38:Int) != 0)=true from rfl,Vn];exact no 38 (by decide)
  have m:decide (c.aa.To > 1099511627776)=false:=by simpa using y
  simp only[m,a_,bn];obtain ⟨st',id,e,G,g,K,r,z⟩:=LD w q (node:=c.aa.Node) (a:=c.aa.bE) (b:=c.aa.To) c1 (by omega);rw[g,aE];dsimp only;by_cases t:((decide (c.aa.bE<st.bF)) || (decide (c.aa.To<=c.aa.bE)))=true
  ·rw[if_pos t,aE];have L:e=2:=by
    unfold zbj at g;have:(((((decide (c.aa.Node<0)) || (decide (c.aa.Node≥(s.am.length:Int)))) || (decide (c.aa.bE<st.bF))) || (decide (c.aa.To<=c.aa.bE))) || (decide (c.aa.To > 1099511627776)))=true:=by simp only[l,f,m,Bool.or_false,yBB];exact t
    rw[if_pos this] at g;simp only[aw,ba] at g;exact g.2.1.symm
   subst L;have u:=z (by decide);subst u;simp only[show ((2:Int) == 0)=false from rfl,a_,bn,show ((2:Int) != 0)=true from rfl,if_true,Option.bind_some,Vn];exact no 2 (by decide)
  ·rw[if_neg t,aE];simp only[Rj,if_true,G,Option.bind_some];by_cases j:e=0
   ·subst j;simp only[Rj,if_true,show ((0:Int) != 0)=false from rfl,a_,bn];refine ⟨st',_,rfl,⟨K,λd=>?_,by simp,by rw[r],by rw[r]⟩,r,rfl⟩;rcases d with d | d
    ·exact absurd rfl d
    ·omega
   ·have f1:(e == 0)=false:=by simpa using j
    have M:(e != 0)=true:=by simpa using j
    have u:=z j;subst u;simp only[f1,M,a_,bn,if_true,Option.bind_some,Vn];exact no e j
 ·simp only[h,show ((12:Int) == 12)=true from rfl,show ((12:Int) == 11)=false from rfl,a_,bn,if_true,IM,Bool.and_false,Option.bind_some,Rj];rw[h] at no;unfold zca zct zdH;rcases Mp n c.aa.Id with ⟨i,Q,p1,v⟩ | ⟨p1,v⟩
  ·rw[p1,v];simp only[Option.bind_some,show ((0:Int) != 0)=false from rfl,zM,a_,bn,copy_eq (Bq q),Q_,Rj,if_true];refine ⟨_,_,rfl,⟨Ma q i,λd=>?_,by simp,rfl,rfl⟩,rfl,rfl⟩;rcases d with d | d
   ·exact absurd rfl d
   ·omega
  ·rw[p1,v];simp only[Option.bind_some,show ((30:Int) != 0)=true from rfl,Bool.not_false,if_true,Q_,Rj,show ((30:Int) == 0)=false from rfl,a_,bn,Vn];exact no 30 (by decide)
end Go.Plain
end
section
namespace Go.Plain
open Go.Abs
variable{s:aU}{st:bj}
theorem hand{H:List (Int×Ib)}(a:zbn 1000=some H){k:Int}(h:1<=k/\k<=12) :
  (k=1/\bT H k=some { dC:=56 })∨((2<=k/\k<=5)/\bT H k=some { dC:=57 })∨((k=6∨k=7)/\bT H k=some { dC:=58 })∨((8<=k/\k<=10)/\bT H k=some { dC:=59 })∨((k=11∨k=12)/\bT H k=some { dC:=60 }):=by
 unfold zbn at a;injection a with a
 subst a;have:k=1∨k=2∨k=3∨k=4∨k=5∨k=6∨k=7∨k=8∨k=9∨k=10∨k=11∨k=12:=by omega
 rcases this with rfl | rfl | rfl | rfl | rfl | rfl | rfl | rfl | rfl | rfl | rfl | rfl
 ·exact .inl ⟨rfl,rfl⟩
 ·exact .inr (.inl ⟨by decide,rfl⟩)
 ·exact .inr (.inl ⟨by decide,rfl⟩)
 ·exact .inr (.inl ⟨by decide,rfl⟩)
 ·exact .inr (.inl ⟨by decide,rfl⟩)
 ·exact .inr (.inr (.inl ⟨by decide,rfl⟩))
 ·exact .inr (.inr (.inl ⟨by decide,rfl⟩))
 ·exact .inr (.inr (.inr (.inl ⟨by decide,rfl⟩)))
 ·exact .inr (.inr (.inr (.inl ⟨by decide,rfl⟩)))
 ·exact .inr (.inr (.inr (.inl ⟨by decide,rfl⟩)))
 ·exact .inr (.inr (.inr (.inr ⟨by decide,rfl⟩)))
 ·exact .inr (.inr (.inr (.inr ⟨by decide,rfl⟩)))
theorem WI{H:List (Int×Ib)}(a:zbn 1000=some H){k:Int}(h:¬(1<=k/\k<=12)):bT H k=none:=by
 unfold zbn at a;injection a with a
 subst a;simp only[ES];rw[if_neg (by omega),if_neg (by omega),if_neg (by omega),if_neg (by omega),if_neg (by omega),if_neg (by omega),if_neg (by omega),if_neg (by omega),if_neg (by omega),if_neg (by omega),if_neg (by omega),if_neg (by omega)];rfl
abbrev Ld(s:aU)(st:bj)(c:pB):=
 zek 1000 st.aj.ah st.ae (st.ai.map λa=>(a.aK,a)) c s.am s.aQ s.ah s.aG s.ar.pF s.ar.dh s.ar.jT s.ar.bX s.bZ s.Mode s.ae s.eJ s.aB s.bC s.dg s.In s.Out s.bW st.bF st.Next st.aO st.aC st.dl st.aj.am s.ae (bY s.am st.ai)
theorem WW(f:dN s st)(q:aI s st)(c:pB)(t:c.aa.ay.length<=20) :
  ∃ st' a, eU 1000 s st c = some (st', a) /\ Good s st c.aa.Kind st' a /\
   Ld s st c=some (st'.aj.ah,st'.ae,st'.ai.map (λa=>(a.aK,a)),a,st'.aO,st'.aC,st'.aj.am,bY s.am st'.ai,st'.Next):=by
 have hs:=f.spec;have k:=q.spec;obtain ⟨H,n⟩:∃H,zbn 1000=some H:=⟨_,rfl⟩;unfold Ld zek eU;rw[n,aE];by_cases hk:1<=c.aa.Kind/\c.aa.Kind<=12
 rotate_left
 ·rw[WI n hk,if_pos (by simp;omega)];simp only[KK,dt,if_true,Vn,Option.bind_some];exact ⟨st,_,rfl,.no q (by simp),rfl⟩
 by_cases o:0<=c.az/\c.az<s.aG
 rotate_left
 ·have bad:∀{R:Type}(g:Bool->Option R),(if (decide (c.az<0))=true then g true else g (decide (c.az≥s.aG)))=g true:=λg=>by
   by_cases h:c.az<0
   ·rw[if_pos (by simpa using h)]
   ·rw[if_neg (by simpa using h),show decide (c.az≥s.aG)=true by simp;omega]
  rw[if_pos (by simp;omega)];refine ⟨st,_,rfl,.no q (by simp),?_⟩;rcases hand n hk with ⟨_,m⟩ | ⟨_,m⟩ | ⟨_,m⟩ | ⟨_,m⟩ | ⟨_,m⟩ <;> rw[m] <;>
   simp only[KK,dt,OR hs,Option.bind_some,bad,if_true,Vn,show Nat.beq 56 56=true from rfl,show Nat.beq 57 56=false from rfl,show Nat.beq 57 57=true from rfl,show Nat.beq 58 56=false from rfl,show Nat.beq 58 57=false from rfl,show Nat.beq 58 58=true from rfl,
    show Nat.beq 59 56=false from rfl,show Nat.beq 59 57=false from rfl,show Nat.beq 59 58=false from rfl,show Nat.beq 59 59=true from rfl,show Nat.beq 60 56=false from rfl,show Nat.beq 60 57=false from rfl,show Nat.beq 60 58=false from rfl,show Nat.beq 60 59=false from rfl,show Nat.beq 60 60=true from rfl,cond_true,cond_false] <;> rfl
 have u:decide (c.az<0)=false:=by simp;omega
 have v:decide (c.az≥s.aG)=false:=by simp;omega
 have ok:∀{R:Type}(g:Bool->Option R),(if (decide (c.az<0))=true then g true else g (decide (c.az≥s.aG)))=g false:=λg=>by rw[u,v];rfl
 rw[if_neg (by simp;omega)];rcases hand n hk with ⟨e,m⟩ | ⟨e,m⟩ | ⟨e,m⟩ | ⟨e,m⟩ | ⟨e,m⟩
 ·rw[m,if_pos (by simpa using e)];simp only[KK,dt,OR hs,Option.bind_some,ok,a_,bn,show Nat.beq 56 56=true from rfl,cond_true];obtain ⟨st',a,p1,b,i,d,l,j,p⟩:=do24 f q c t;unfold Uv at p;unfold zeG;rw[p1,p,aE,aE,aE];refine ⟨st',a,rfl,⟨b.sound,λw=>b.cX (w.elim .inl λh=>by omega),b.ee,b.now,b.use⟩,?_⟩;rw[i,d,l,j]
 ·rw[m,if_neg (by simp;omega),if_pos (by simp;omega)];simp only[KK,dt,OR hs,Option.bind_some,ok,a_,bn,show Nat.beq 57 56=false from rfl,show Nat.beq 57 57=true from rfl,cond_true,cond_false];obtain ⟨st',a,p1,b,i,d,l,j⟩:=Yo f q c;rw[p1,j,aE,aE];refine ⟨st',a,rfl,b,?_⟩;rw[i,d,l]
 ·rw[m,if_neg (by simp;omega),if_neg (by simp;omega),if_pos (by simp;omega)];simp only[KK,dt,OR hs,Option.bind_some,ok,a_,bn,show Nat.beq 58 56=false from rfl,show Nat.beq 58 57=false from rfl,show Nat.beq 58 58=true from rfl,cond_true,cond_false];obtain ⟨st',a,p1,b,i,d,l,j⟩:=do26 f q c e o;unfold Hk at j;unfold iQ;rw[p1,j,aE,aE,aE];refine ⟨st',a,rfl,b,?_⟩;rw[i,d,l]
 ·rw[m,if_neg (by simp;omega),if_neg (by simp;omega),if_neg (by simp;omega),if_pos (by simp;omega)];simp only[KK,dt,OR hs,Option.bind_some,ok,a_,bn,show Nat.beq 59 56=false from rfl,show Nat.beq 59 57=false from rfl,show Nat.beq 59 58=false from rfl,show Nat.beq 59 59=true from rfl,cond_true,cond_false];have r:=qi_of f q;unfold iK;rw[Qk f q,SQ hs k r (by omega),aE,aE,aE];exact ⟨st,_,rfl,.no q (SF r _),rfl⟩
 ·rw[m,if_neg (by simp;omega),if_neg (by simp;omega),if_neg (by simp;omega),if_neg (by simp;omega)];simp only[KK,dt,OR hs,Option.bind_some,ok,a_,bn,show Nat.beq 60 56=false from rfl,show Nat.beq 60 57=false from rfl,show Nat.beq 60 58=false from rfl,show Nat.beq 60 59=false from rfl,show Nat.beq 60 60=true from rfl,cond_true,cond_false];obtain ⟨st',a,p1,b,i,d⟩:=do28 f q c e o;unfold Lf at d;unfold gp;rw[p1,d,aE,aE,aE];refine ⟨st',a,rfl,b,?_⟩;rw[i]
theorem few24c(l:List pB):ce (ze0 1000 l) λr=>r=true->l.length<=12/\∀c∈l,c.aa.ay.length<=20:=by
 unfold ze0;rw[bD];refine ⟨λ_=>by rw[bA];simp,λh=>?_⟩;have b:l.length<=12:=by simp only[bb] at h;omega
 refine uK l (λ_ x=>x.aa.ay.length<=20) (λi f a _ d=>?_) (λf h=>?_) (by omega)
 ·simp only[cK a,if_true,cj a,Option.bind_some];rw[bD,bV (by omega)];refine ⟨λ_=>by rw[bA];simp,λh=>d ?_⟩;simp only[bb] at h;omega
 ·simp only[cM,a_,bn];rw[bA];exact λ_=>⟨b,AQ (A:=λc:pB=>c.aa.ay.length<=20) h⟩
theorem Ml:fB 1000=some true:=by kernel_rfl
theorem Vi(w:zdX)(l:List pB):zeb 1000 w l=some true:=by
 unfold zeb;rw[Ml,aE,if_neg (by simp)];dsimp only[dt];obtain ⟨r,e,h⟩:=few23 w.S w.St;rw[e,aE];cases r with
 |false=>rfl
 |true=>
  have z:=h rfl;rw[if_neg (by simp)];obtain ⟨A,E,F⟩:=few24c l;rw[E,aE];cases A with
  |false=>rfl
  |true=>
   obtain ⟨M,m⟩:=F rfl;rw[if_neg (by simp)];by_cases q:aI w.S w.St
   ·rw[Pu z q,aE];generalize w.S=s at *;generalize w.St=st at *;dsimp only;rw[if_neg (by simp)];refine ce.eq (oe l.length (λi x=>∃b:bj,aI s b/\b.bF=st.bF/\b.dl=st.dl/\x=((i:Int),b.Next,b.aO,b.aC,b.aj.am,bY s.am b.ai,b.bF,b.Next,b.aO,b.ae,b.ai,b.aC,b.dl,b.aj.ah,b.aj.am,b.aj.ah,b.ae,b.ai.map λa=>(a.aK,a)))
     (λi x f n o G=>?_) (λx f o=>?_) ⟨st,q,rfl,rfl,rfl⟩ (by omega))
    ·obtain ⟨t,p,j,k,rfl⟩:=o;dsimp only;rw[cK n,if_pos rfl,cj n,aE];have K:=kF p;obtain ⟨d,a,p1,g,u⟩:=WW K p l[i] (m _ (bR n));unfold Ld at u;rw[j,k] at u;have eta:({ bF:=t.bF,Next:=t.Next,aO:=t.aO,ae:=t.ae,ai:=t.ai,aC:=t.aC,dl:=t.dl,aj:=({ ah:=t.aj.ah,am:=t.aj.am }:EN) }:bj)=t:=rfl;rw[u,aE,eta,p1,aE];dsimp only;have sh:=Bq g.sound;have v:Vx 1000 d d=some true:=LL sh;have y:KE 1000 d.aj.ah d.ae (d.ai.map λa=>(a.aK,a)) st.bF d.Next d.aO d.aC st.dl d.aj.am=some d:=by
      rw[<-j,<-k,<-g.now,<-g.use];exact oY sh
     rw[Mr a g.ee,aE,if_neg (by simp),y,aE,v,aE,if_neg (by simp),i_ (Dg (kF g.sound)) g.sound,aE,if_neg (by simp),bV (by omega)];have fin:=G _ ⟨d,g.sound,by rw[g.now,j],by rw[g.use,k],rfl⟩;by_cases c1:a.ko=0
     ·rw[if_neg (by simpa using c1)];by_cases L:8<=l[i].aa.Kind/\l[i].aa.Kind<=10
      ·rw[if_pos (by simp;omega),<-g.cX (.inr L),v,aE,if_neg (by simp)];exact fin
      ·rw[if_neg (by simp;omega),if_neg (by simp)];exact fin
     ·rw[if_pos (by simpa using c1),<-g.cX (.inl c1),v,aE,if_neg (by simp)];exact fin
    ·obtain ⟨t,p,j,k,rfl⟩:=o;dsimp only;rw[cM,if_neg (by simp),bA]
   ·rw[QK z q,aE];rfl
end Go.Plain
end
