/- TyH2, TyH3, TyH4, TyHA, TyC1, TyQ1, TyQ2, TyQA, TySW, TySF, TyQB, TySR, TyC2, TyS3, TyS7, TyC3, TyC4, TyC5, TyU0, TyU1, TyC6 -/
import Derived.Test.YtidhdalhpjapaaaGreatDoorLawB
set_option linter.all false
section
namespace Go.Plain
open Go.Abs
def Ua(j:aF)(r:dw):aF:={ j with aD:=r.aD,au:=r.au,aN:=r.aN,ab:=j.ab+1 }
def nW(j:aF)(now:Int)(r:dw):aF:=
 if r.Kind=2 then Ua j r else bx j (fM r.Kind) now false ((cz j.State (fM r.Kind)).getD 0)
def done(a:Int)(j:aF):eC:={ Key:=a,ko:=0,aK:=j.Id,ab:=j.ab,cP:=[] }
noncomputable def Io(s:aU)(now:Int)(j:aF)(c:pB):aF×eC:=
 if pZ s j c.az c.aa≠0 then (j,Ng c.aa.Key (pZ s j c.az c.aa)) else (nW j now c.aa,done c.aa.Key (nW j now c.aa))
def IK(now:Int):Prop:=0<=now/\now<=1099511627776
theorem Ue{s:aU}(hs:d_ s)(k:aZ s){j:aF}(e:bM j){now:Int}(f:IK now)(c:pB):sq 1000 s j now c=some (Io s now j c):=by
 have q:=e.cw;have t:=k.dr;have u:=e.version;unfold sq Io;rw[show Xq 1000 j.ay=some j.ay from jk (by omega),aE,if_neg (show ¬((decide (now<0)) || (decide (now > 1099511627776)))=true by have:=f.1;have:=f.2;simp;omega),TF hs k (j:={ Id:=j.Id,az:=j.az,Queue:=j.Queue,aD:=j.aD,au:=j.au,aN:=j.aN,ay:=j.ay,State:=j.State,Ok:=j.Ok,bG:=j.bG,ab:=j.ab,bI:=j.bI,Start:=j.Start,End:=j.End,Array:=j.Array }) e,aE];show (if (pZ s j c.az c.aa != 0)=true then _ else _)=_;by_cases d:pZ s j c.az c.aa=0
 ·have A:=MN d;have v:=A.version;obtain ⟨i,l⟩:=Ta A.kind;rw[if_neg (show ¬(pZ s j c.az c.aa != 0)=true by simpa using d),if_neg (JD d)];have ap:jm 1000 j now c.aa=some (nW j now c.aa,0):=by
   unfold jm nW;rw[i,l,aE,aE];by_cases b:c.aa.Kind=2
   ·rw[if_pos b,if_neg (show ¬(((-1:Int)) != (-1))=true by simp),if_pos b,wr (by omega) (by omega)];rfl
   ·have w:=pH A.kind b;obtain ⟨x,a⟩:=A.step b;rw[if_neg b,if_pos (show (fM c.aa.Kind != (-1))=true by simp;omega),if_neg b,aE,aE];obtain ⟨r,er,m⟩:=IF e (what:=fM c.aa.Kind) f false;rcases m with ⟨_,h | h⟩ | ⟨o,g,_,p⟩
    ·rw[a] at h;cases h
    ·omega
    ·rw[a] at g;cases g;rw[er,p,a];rfl
  rw[show jm 1000 ({ Id:=j.Id,az:=j.az,Queue:=j.Queue,aD:=j.aD,au:=j.au,aN:=j.aN,ay:=j.ay,State:=j.State,Ok:=j.Ok,bG:=j.bG,ab:=j.ab,bI:=j.bI,Start:=j.Start,End:=j.End,Array:=j.Array }:aF) now c.aa=some (nW j now c.aa,0) from ap,aE];dsimp only;rw[if_neg (show ¬((0:Int) != 0)=true by simp)];rfl
 ·rw[if_pos (show (pZ s j c.az c.aa != 0)=true by simpa using d),if_pos d];rfl
theorem Mi{j:aF}{w now a:Int}(e:w=1∨w=2∨w=6)(b:cz j.State w=some a)(h:0<=j.ab/\j.ab<281474976710656):Z_ 1000 j w now false=some (bx j w now false a):=by
 have g:1<=a/\a<=6:=by
  unfold cz at b
  repeat' split at b
  all_goals simp at b
  all_goals omega
 unfold Z_;dsimp only[dt];rw[Je e,aE,b,xAc];unfold bx;rw[wr (x:=j.ab+1) (by omega) (by omega)];by_cases d:im a
 ·have f:a=5∨a=6:=d;have hd:decide (a≥5)=true:=by simp;omega
  rcases e with rfl | rfl | rfl <;> simp[hd,d]
 ·have f:¬(a=5∨a=6):=d;have hd:decide (a≥5)=false:=by simp;omega
  rcases e with rfl | rfl | rfl <;> simp[hd,d]
theorem Py{s:aU}(hs:d_ s)(k:aZ s){j:aF}(e:bM j){now:Int}(f:IK now)(c:pB):eX 1000 s j now c=some (Io s now j c):=by
 have h:=k.dr;have i:=e.version;unfold eX Io;dsimp only[dt];rw[if_pos (show ((decide (now≥0))&&(decide (now<=1099511627776)))=true by have:=f.1;have:=f.2;simp;omega),Ka hs k e,aE];by_cases b:pZ s j c.az c.aa=0
 ·have A:=MN b;have l:=A.version;rw[if_neg (show ¬(pZ s j c.az c.aa != 0)=true by simpa using b),if_neg (JD b)];unfold nW;by_cases a:c.aa.Kind=2
  ·rw[if_pos (show (c.aa.Kind == 2)=true by simpa using a),if_pos a,wr (by omega) (by omega)];rfl
  ·have g:=pH A.kind a;obtain ⟨m,d⟩:=A.step a;rw[if_neg (show ¬(c.aa.Kind == 2)=true by simpa using a),if_neg a,Kg,aE,Mi g d (by omega),aE,d];rfl
 ·rw[if_pos (show (pZ s j c.az c.aa != 0)=true by simpa using b),if_pos b];rfl
structure Ed (s:aU) (w j:aF):Prop where
 ok:bM j
 was:bo w.State
 now:bo j.State
 up:w.ab<j.ab
 top:j.ab<=s.aB
 id:j.Id=w.Id
 user:j.az=w.az
 queue:j.Queue=w.Queue
 after:j.ay=w.ay
 okd:j.Ok=w.Ok
 kill:j.bG=w.bG
 born:j.bI=w.bI
 start:j.Start=w.Start
 fin:j.End=w.End
 arr:j.Array=w.Array
 fits:Bx 1000 s j.Queue j.aD j.au=some true
inductive Ch (s:aU) (now:Int) (w:aF):aF->Prop where
 |same:Ch s now w w
 |ed {j:aF} (h:Ed s w j):Ch s now w j
 |kill (hw:bo w.State) (hv:w.ab<s.aB):Ch s now w (bx w 6 now false 6)
 |tB {j:aF} (h:Ed s w j) (hv:j.ab<s.aB):Ch s now w (bx j 6 now false 6)
 |stop (hw:w.State=3) (hv:w.ab<s.aB):Ch s now w (bx w 6 now false 4)
theorem oT{x w a:Int}(b:w=1∨w=2)(h:cz x w=some a):bo x/\bo a:=by
 unfold cz at h;rcases b with rfl | rfl
 ·by_cases e:x=1
  ·subst e;rw[if_pos ⟨rfl,rfl⟩] at h;cases h;exact ⟨.inl rfl,.inr rfl⟩
  ·rw[if_neg (by omega),if_neg (by omega),if_neg (by omega),if_neg (by omega),if_neg (by omega),if_neg (by omega),if_neg (by omega),if_neg (by omega),if_neg (by omega)] at h;cases h
 ·by_cases e:x=2
  ·subst e;rw[if_neg (by omega),if_pos ⟨rfl,rfl⟩] at h;cases h;exact ⟨.inr rfl,.inl rfl⟩
  ·rw[if_neg (by omega),if_neg (by omega),if_neg (by omega),if_neg (by omega),if_neg (by omega),if_neg (by omega),if_neg (by omega),if_neg (by omega),if_neg (by omega)] at h;cases h
theorem zA{x a:Int}(h:cz x 6=some a):(bo x/\a=6)∨(x=3/\a=4):=by
 unfold cz at h;rw[if_neg (by omega),if_neg (by omega),if_neg (by omega),if_neg (by omega),if_neg (by omega)] at h;split at h
 ·rename_i q;cases h;exact .inr ⟨q.2,rfl⟩
 split at h
 ·rename_i q;cases h;exact .inl ⟨q.2,rfl⟩
 ·rw[if_neg (by omega),if_neg (by omega)] at h;cases h
theorem mod_ok{j:aF}{r:dw}(h:bM j)(D:OC r)(a:j.ab<281474976710656):bM (Ua j r):=
 ⟨h.id,h.user,h.queue,D.AT,D.cp,D.ny,D.wall,h.cw,h.after,by have:=h.version;simp only[Ua];omega,h.born,h.start,h.fin,h.arr,⟨h.state.st,h.state.start,h.state.fin,h.state.ok,h.state.kill⟩⟩
theorem Gs{k:Int}(h:2<=k/\k<=5)(a:k≠2):(k=3/\fM k=1)∨(k=4/\fM k=2)∨(k=5/\fM k=6):=by
 have:k=3∨k=4∨k=5:=by omega
 rcases this with rfl | rfl | rfl
 ·exact .inl ⟨rfl,rfl⟩
 ·exact .inr (.inl ⟨rfl,rfl⟩)
 ·exact .inr (.inr ⟨rfl,rfl⟩)
theorem ZL{s:aU}(k:aZ s){w j:aF}{now:Int}(x:bM j)(N:IK now)(y:bo w.State)(o:bo j.State)(up:w.ab<=j.ab)
  (id:j.Id=w.Id) (g:j.az=w.az) (b:j.Queue=w.Queue) (d:j.ay=w.ay) (p:j.Ok=w.Ok) (i:j.bG=w.bG) (l:j.bI=w.bI) (start:j.Start=w.Start) (fin:j.End=w.End) (arr:j.Array=w.Array)
  (q:Bx 1000 s j.Queue j.aD j.au=some true) {r:dw} (A:Nr s j r):Ed s w (nW j now r)∨(r.Kind=5/\nW j now r=bx j 6 now false 6):=by
 have Y:=A.version;have Z:=k.dr;unfold nW;by_cases t:r.Kind=2
 ·obtain ⟨_,D,O⟩:=A.mod t;rw[if_pos t];exact .inl ⟨mod_ok x D (by omega),y,o,by simp only[Ua];omega,by simp only[Ua];omega,id,g,b,d,p,i,l,start,fin,arr,O⟩
 ·obtain ⟨m,a⟩:=A.step t;rw[if_neg t,a,xAc];have step:∀f,f=1∨f=2->cz j.State f=some m->Ed s w (bx j f now false m):=λf u z=>by
   obtain ⟨_,E⟩:=oT u z;have P:m=1∨m=2:=E;have R:=iJ x N false z (by omega);have S:¬f=5:=by omega
   have G:¬f=6:=by omega
   have K:¬f=7:=by omega
   have T:¬f=8:=by omega
   have v:¬f=3:=by omega
   have W:¬f=4:=by omega
   have X:¬im m:=λh=>by have h':m=5∨m=6:=h;omega
   refine ⟨R,y,E,by simp only[bx];omega,by simp only[bx];omega,id,g,b,d,?_,?_,l,?_,?_,arr,q⟩
   ·simp only[bx,S,G,K,T,bn,false_or,false_and];exact p
   ·simp only[bx,G,K,bn];exact i
   ·simp only[bx,v,W,bn];exact start
   ·simp only[bx,X,bn];exact fin
  rcases Gs A.kind t with ⟨_,e⟩ | ⟨_,e⟩ | ⟨v,e⟩
  ·rw[e] at a ⊢;exact .inl (step 1 (.inl rfl) a)
  ·rw[e] at a ⊢;exact .inl (step 2 (.inr rfl) a)
  ·rw[e] at a ⊢;rcases zA a with ⟨_,rfl⟩ | ⟨h3,_⟩
   ·exact .inr ⟨v,rfl⟩
   ·have M:j.State=1∨j.State=2:=o;omega
theorem HG{s:aU}{j:aF}{r:dw}(h:j.State=4∨j.State=6)(A:Nr s j r):False:=by
 by_cases d:r.Kind=2
 ·have b:j.State=1∨j.State=2:=(A.mod d).1;omega
 ·obtain ⟨f,a⟩:=A.step d;rcases Gs A.kind d with ⟨_,e⟩ | ⟨_,e⟩ | ⟨_,e⟩
  ·rw[e] at a;have b:j.State=1∨j.State=2:=(oT (.inl rfl) a).1;omega
  ·rw[e] at a;have b:j.State=1∨j.State=2:=(oT (.inr rfl) a).1;omega
  ·rw[e] at a;rcases zA a with ⟨b,_⟩ | ⟨g,_⟩
   ·have b:j.State=1∨j.State=2:=b;omega
   ·omega
theorem YC{s:aU}(k:aZ s){w:aF}(i:bM w){now:Int}(g:IK now)(l:bo w.State->Bx 1000 s w.Queue w.aD w.au=some true){j:aF}(h:Ch s now w j){r:dw}(A:Nr s j r):Ch s now w (nW j now r):=by
 cases h with
 |same=>
  by_cases b:bo w.State
  ·rcases ZL k i g b b (yBY _) rfl rfl rfl rfl rfl rfl rfl rfl rfl rfl (l b) A with h | ⟨_,h⟩
   ·exact .ed h
   ·rw[h];exact .kill b A.version
  ·unfold nW;have d:r.Kind≠2:=λd=>b (A.mod d).1;obtain ⟨o,a⟩:=A.step d;rw[if_neg d,a,xAc];rcases Gs A.kind d with ⟨_,e⟩ | ⟨_,e⟩ | ⟨_,e⟩
   ·rw[e] at a;exact absurd (oT (.inl rfl) a).1 b
   ·rw[e] at a;exact absurd (oT (.inr rfl) a).1 b
   ·rw[e] at a ⊢;rcases zA a with ⟨h,_⟩ | ⟨m,rfl⟩
    ·exact absurd h b
    ·exact .stop m A.version
 |ed h=>
  have up:=h.up;rcases ZL k h.ok g h.was h.now (by omega) h.id h.user h.queue h.after h.okd h.kill h.born h.start h.fin h.arr h.fits A with f | ⟨_,f⟩
  ·exact .ed f
  ·rw[f];exact .tB h A.version
 |kill _ _=>exact (HG (.inr rfl) A).elim
 |tB _ _=>exact (HG (.inr rfl) A).elim
 |stop _ _=>exact (HG (.inl rfl) A).elim
theorem ZO{s:aU}(k:aZ s){w:aF}(b:bM w){now:Int}(d:IK now){j:aF}(h:Ch s now w j):bM j/\j.Id=w.Id/\j.Queue=w.Queue:=by
 have g:=k.dr;cases h with
 |same=>exact ⟨b,rfl,rfl⟩
 |ed h=>exact ⟨h.ok,h.id,h.queue⟩
 |kill a e=>exact ⟨iJ b d false (by unfold cz;rw[if_neg (by omega),if_neg (by omega),if_neg (by omega),if_neg (by omega),if_neg (by omega),if_neg (λq=>by have f:w.State=1∨w.State=2:=a;omega),if_pos ⟨rfl,a⟩]) (by omega),rfl,rfl⟩
 |tB h e=>exact ⟨iJ h.ok d false (by unfold cz;rw[if_neg (by omega),if_neg (by omega),if_neg (by omega),if_neg (by omega),if_neg (by omega),if_neg (λq=>by have f:=h.now;unfold bo at f;omega),if_pos ⟨rfl,h.now⟩]) (by omega),h.id,h.queue⟩
 |stop a e=>exact ⟨iJ b d false (by rw[a];rfl) (by omega),rfl,rfl⟩
end Go.Plain
end
section
namespace Go.Plain
open Go.Abs
theorem Ar{a b:xH}:xH.beq a b=true↔a=b:=by cases a;cases b;simp[xH.beq]
theorem Ps{R:Option Bool}{a b:List xH}(w:(a.length:Int)=b.length)(y:a.length<=300){P:Prop}(k:P->a=b)(l:a=b->dv R P) :
  dv (ca (λm (g:Int)=>
   if (decide (g<(a.length:Int)))=true then
    (aL a g).bind λo=>
    (aL b g).bind λq=>
    if (!(xH.beq o q))=true then
     some false
    else
     m (IntKind.i64.wrap (g+1))
   else R) 1000 0) P:=by
 refine uK a (λi x=>b[i]? = some x) (λi f h j r=>?_) (λf j=>?_) (by omega)
 ·have d:i<b.length:=by omega
  simp only[cK h,if_true,cj h,cj d,Option.bind_some,bV (show i<1000000 by omega)];by_cases e:a[i]=b[i]
  ·rw[Ar.2 e,if_neg (by simp)];exact r (by rw[dB d,e])
  ·rw[if_pos (by simp only[ic];cases t:xH.beq a[i] b[i] with | false=>rfl | true=>exact absurd (Ar.1 t) e)];exact cy λp=>e (by have:=k p;subst this;rfl)
 ·simp only[cM,a_,bn];refine l (List.ext_getElem (by omega) λi u v=>?_);have:=j i u;rw[dB v] at this;exact (Option.some.inj this).symm
theorem Qo(a b:List xH)(f:a.length<=300):dv (zbm 1000 a b) (a=b):=by
 unfold zbm;by_cases d:(a.length:Int)=b.length
 ·rw[if_neg (by simpa using d)];exact Ps d f id λe=>oP e
 ·rw[if_pos (by simpa using d)];exact cy λe=>d (by rw[e])
theorem YJ{a b:aF}(j:a.Id=b.Id)(k:a.az=b.az)(l:a.Queue=b.Queue)(m:a.aD=b.aD)(o:a.au=b.au)(p:a.aN=b.aN)(q:a.ay=b.ay)(r:a.State=b.State)(t:a.Ok=b.Ok)(d:a.bG=b.bG)(e:a.ab=b.ab)(f:a.bI=b.bI)(g:a.Start=b.Start)(h:a.End=b.End)(i:a.Array=b.Array):a=b:=by cases a;cases b;simp_all
theorem Jq{a b:aF}(d:a.ay.length<=300):dv (tW 1000 a b) (a=b):=by
 unfold tW;rw[dv,bD];simp only[bJ,lm];refine ⟨λ⟨⟨⟨⟨⟨c1,f⟩,g⟩,i⟩,j⟩,k⟩=>(Qo a.ay b.ay d).bind λr l=>?_,λh=>?_⟩
 ·rw[bA];simp only[bJ,lm,l];refine ⟨λ⟨⟨⟨⟨⟨⟨⟨⟨m,o⟩,p⟩,q⟩,t⟩,u⟩,v⟩,w⟩,x⟩=>YJ c1 f g i (dD.1 j) k m o p q t u v w x,λe=>?_⟩;subst e;simp
 ·refine cy λe=>h ?_;subst e;exact ⟨⟨⟨⟨⟨rfl,rfl⟩,rfl⟩,rfl⟩,dD.2 rfl⟩,rfl⟩
structure Gone (Q Q':List Int) (q:Int):Prop where
 in':bL Q'
 len:Q'.length=Q.length
 off:∀x:Nat,(x:Int)≠q->Q'[x]? = Q[x]?
 on:0<=q/\q<Q.length->Q'[q.toNat]?≠Q[q.toNat]?
theorem sn(Q:List Int)(q:Int):Ia Q q q=DV Q q:=by unfold Ia;rw[if_pos rfl]
theorem Fj{st:bj}{F:List aJ}(f:JS st)(as:AS st F){k:Nat}(hk:k<st.ae.length){b:Int}(g:cz st.ae[k].State 6=some b)(l:¬(fI st.ae[k].State/\¬fI b))(q:st.ae[k].ab<281474976710656) :
  za1 1000 st.aj.ah st.ae (st.ai.map λa=>(a.aK,a)) st.ae[k].Id 6 false st.bF st.aj.am F =
   some (DV st.aj.ah st.ae[k].Queue,st.ae.set k (bx st.ae[k] 6 st.bF false b),st.ai.map (λa=>(a.aK,a)),0,st.aj.am,F):=by
 obtain ⟨r,er,m⟩:=NY f as st.ae[k].Id 6 false;rw[er];congr 1;rcases m with ⟨_,_,_,h⟩ | ⟨i,o,p,t,n,u,d,_,j,_,e,rfl⟩
 ·rcases h k hk rfl (by omega) with h | h
  ·rw[g] at h;cases h
  ·omega
 ·have:=f.aY.inj o hk d;subst this;rw[g] at j;cases j;rcases e with ⟨_,rfl,rfl,rfl⟩ | ⟨h,_⟩
  ·rw[sn]
  ·exact absurd h l
theorem AS.set{st:bj}{F:List aJ}(h:AS st F){J:List aF}{Q:List Int}:AS { st with ae:=J,aj:={ ah:=Q,am:=st.aj.am } } F:=
 ⟨h.HP,h.few,h.vec,h.nodes,h.now⟩
theorem DF{x:Int}(h:bo x):cz x 6=some 6:=by unfold cz;rw[if_neg (by omega),if_neg (by omega),if_neg (by omega),if_neg (by omega),if_neg (by omega),if_neg (λq=>by have a:x=1∨x=2:=h;omega),if_pos ⟨rfl,h⟩]
theorem UR{x:Int}(h:bo x):¬fI x:=λq=>by have a:x=1∨x=2:=h;have b:x=3∨x=4:=q;omega
end Go.Plain
end
section
namespace Go.Plain
open Go.Abs
inductive DT (R:aF->aF->Prop):List aF->List aF->Prop where
 |nil:DT R [] []
 |cons {a b:aF} {l m:List aF} (h:R a b) (t:DT R l m):DT R (a::l) (b::m)
theorem DT.refl{R:aF->aF->Prop}(h:∀a,R a a):∀l,DT R l l
 |[]=>.nil
 |a::l=>.cons (h a) (DT.refl h l)
theorem CN{R:aF->aF->Prop}(b:∀a,R a a){j:aF}:∀(l:List aF)(k:Nat)(hk:k<l.length),dE j=dE l[k]->(dE l[k]=true->R l[k] j)->DT R (l.filter dE) ((l.set k j).filter dE)
 |a :: l, 0, _, h, g => by
  simp only[List.getElem_cons_zero] at h g;rw[List.set_cons_zero,yBI,yBI,h];split
  ·exact .cons (g (by assumption)) (DT.refl b _)
  ·exact DT.refl b _
 |a :: l, k + 1, hk, h, g => by
  simp only[List.getElem_cons_succ] at h g;rw[List.set_cons_succ,yBI,yBI];have:=CN b l k (by simpa using hk) h g;split
  ·exact .cons (b a) this
  ·exact this
theorem dm.rel{s:aU}{st st':bj}{R:aF->aF->Prop}(j:∀a b x,R a b->l_ s st a x->l_ s st' b x){H i:List aF}(r:DT R H i):∀{A F},dm s st H A F->dm s st' i A F:=by
 induction r with
 |nil=>intro A F h;exact h
 |cons h t ih=>intro A F q;obtain ⟨x,o,e,u,z,E⟩:=q;exact ⟨x,o,e,j _ _ _ h u,z,ih E⟩
structure Qi (w j:aF):Prop where
 id:j.Id=w.Id
 cp:j.au=w.au
 AT:j.aD=w.aD
 queue:j.Queue=w.Queue
 start:j.Start=w.Start
 wall:j.aN=w.aN
theorem Qi.refl(j:aF):Qi j j:=⟨rfl,rfl,rfl,rfl,rfl,rfl⟩
theorem Wt{l:List aF}{k:Nat}(hk:k<l.length){j:aF}(a:j.Id=l[k].Id){i:aF}(b:i∈l):∃x∈l.set k j,x.Id=i.Id:=by
 obtain ⟨n,d,rfl⟩:=pD b;by_cases e:k=n
 ·subst e;exact ⟨j,List.mem_set hk j,a⟩
 ·refine ⟨(l.set k j)[n]'(by simpa using d),bR _,?_⟩;rw[xAl e]
theorem Fq{s:aU}{st:bj}(q:aI s st){k:Nat}(hk:k<st.ae.length){j:aF}(r:j.Id=st.ae[k].Id)(t:kr s st j)(A:j.State<5->GA s st j)(hs:dE j=dE st.ae[k])(f:dE st.ae[k]=true->Qi st.ae[k] j)
  {Q:List Int} (E:bL Q) (G:Q.length=st.aj.ah.length):aI s { st with ae:=st.ae.set k j,aj:={ ah:=Q,am:=st.aj.am } }:=by
 have mem:∀x∈st.ae.set k j,x∈st.ae∨x=j:=λx l=>Vr l;refine ⟨q.spec,⟨q.ee.now,q.ee.next,q.ee.book⟩,⟨by have:=q.aR.len;simpa using this,λx l=>?_,pU q.aR.aY hk r⟩,λx l z=>?_,?_,⟨q.cE.cI,q.cE.live,λa u x l m=>?_⟩,⟨q.use.len,q.use.use,by rw[G];exact q.use.LM,q.use.nodes,E⟩⟩
 ·have g:kr s st x:=by
   rcases mem x l with h | h
   ·exact q.aR.each x h
   ·subst h;exact t
  exact ⟨g.ok,g.next,g.user,g.queue,g.born,g.start,g.fin,g.version⟩
 ·have g:GA s st x:=by
   rcases mem x l with h | h
   ·exact q.waits x h z
   ·subst h;exact A z
  refine ⟨g.fits,λd hd=>?_⟩;obtain ⟨i,K,e⟩:=g.after d hd;obtain ⟨M,v,N⟩:=Wt hk r K;exact ⟨M,v,N.trans e⟩
 ·refine dm.rel (R:=Qi) (λa b x h p=>?_) (CN Qi.refl st.ae k hk hs f) q.aW;have o:=p.xK;refine ⟨by rw[h.id];exact p.Au,by rw[h.cp];exact p.cp,⟨o.shares,by rw[h.AT];exact o.tot,by rw[h.queue];exact o.q,by rw[h.queue];exact o.part⟩,?_⟩;have:=p.now;rw[h.start,h.wall];exact this
 ·rcases mem x l with h | h
  ·exact q.cE.Aj a u x h m
  ·subst h;obtain ⟨y,w,p⟩:=dm.mem q.aW a u;rw[S_] at w;obtain ⟨n,O,rfl⟩:=pD w.1;have:k=n:=q.aR.aY.inj hk O (by rw[<-r,m];exact p.Au);subst this;have L:=f w.2;rw[L.start,L.wall];exact q.cE.Aj a u _ (bR hk) p.Au.symm
theorem wJ{s:aU}{st:bj}{e:aF}(h:kr s st e){a:Int}(b:bM (bx e 6 st.bF false a))(d:e.ab<s.aB):kr s st (bx e 6 st.bF false a):=by
 refine ⟨b,h.next,h.user,h.queue,h.born,?_,?_,?_⟩
 ·exact h.start
 ·simp only[bx];split
  ·exact yBY _
  ·exact h.fin
 ·have:=(tx (bx e 6 st.bF false a).State).1;simp only[bx] at this ⊢;omega
theorem Ke{s:aU}{st:bj}{w e:aF}(h:kr s st w)(g:Ed s w e):kr s st e:=by have:=(tx e.State).1;have t:=g.top;refine ⟨g.ok,by rw[g.id];exact h.next,by rw[g.user];exact h.user,by rw[g.queue];exact h.queue,by rw[g.born];exact h.born,by rw[g.start];exact h.start,by rw[g.fin];exact h.fin,by omega⟩
theorem jG{j:aF}(h:bo j.State):dE j=false:=by have a:j.State=1∨j.State=2:=h;simp only[dE,yBF,beq_eq_false_iff_ne,ne_eq];omega
theorem RY{s:aU}{st:bj}(q:aI s st){k:Nat}(hk:k<st.ae.length){j:aF}(h:Ch s st.bF st.ae[k] j){Q:List Int}(o:bL Q)(p:Q.length=st.aj.ah.length) :
  aI s { st with ae:=st.ae.set k j,aj:={ ah:=Q,am:=st.aj.am } }:=by
 have f:=bR hk;have d:=q.aR.each _ f;obtain ⟨i,l,_⟩:=ZO q.spec d.ok q.ee.now h;refine Fq q hk l ?_ ?_ ?_ ?_ o p
 ·cases h with
  |same=>exact d
  |ed g=>exact Ke d g
  |kill b a=>exact wJ d i a
  |tB g a=>exact wJ (Ke d g) i a
  |stop b a=>exact wJ d i a
 ·intro m;cases h with
  |same=>exact q.waits _ f m
  |ed g=>have r:st.ae[k].State=1∨st.ae[k].State=2:=g.was;have W:=q.waits _ f (by omega);exact ⟨g.fits,by rw[g.after];exact W.after⟩
  |kill b a=>simp[bx] at m
  |tB g a=>simp[bx] at m
  |stop b a=>have W:=q.waits _ f (by omega);exact ⟨W.fits,W.after⟩
 ·cases h with
  |same=>rfl
  |ed g=>rw[jG g.now,jG g.was]
  |kill b a=>rw[jG b];rfl
  |tB g a=>rw[jG g.was];rfl
  |stop b a=>simp[dE,bx,b]
 ·intro e;cases h with
  |same=>exact Qi.refl _
  |ed g=>rw[jG g.was] at e;cases e
  |kill b a=>rw[jG b] at e;cases e
  |tB g a=>rw[jG g.was] at e;cases e
  |stop b a=>exact ⟨rfl,rfl,rfl,rfl,rfl,rfl⟩
end Go.Plain
end
section
namespace Go.Plain
open Go.Abs
theorem uh{l:List aF}(d:l.length<=300)(hs:bm l){i:Nat}(b:i<l.length):Fv 1000 l l[i].Id=some (i:Int):=by obtain ⟨r,e,f,g,_⟩:=oB d l[i].Id;have h:0<=r:=f.2 ⟨_,bR b,rfl⟩;have a:=g h;have:=hs.inj a.hi b a.is;rw[e];congr 1;omega
theorem GF{x:Int}(h:0<=x/\x<=281474976710656):zda 1000 x=some (Cw x):=by
 unfold zda Cw;by_cases e:x=281474976710656
 ·rw[if_pos (by simpa using e),if_pos (by omega)]
 ·rw[if_neg (by simpa using e),if_neg (by omega),wr (by omega) (by omega)]
theorem zK{J:List aF}{A:List bp}{B:List cg}{U Q:List Int}(f:J.length<=300)(g:A.length<=300)(h:B.length<=300)(i:U.length<=300)(j:Q.length<=300)(d:bL Q)(now next book nd q:Int) :
  zbu 1000 J A B U Q now next book nd q=some (J,A,B,U,DV Q q,now,next,book,nd):=by
 unfold zbu zdy;rw[jk (by omega),jk (by omega),jk (by omega),jk (by omega),jk (by omega)];simp only[Option.bind_some,dt];unfold DV;by_cases a:0<=q/\q<Q.length
 ·obtain ⟨b,e⟩:=ey (l:=Q) a.1 a.2;rw[if_pos (show ((decide (q≥0))&&(decide (q<(Q.length:Int))))=true by simp;omega),if_pos a,e,aE,GF (d _ (bR b)),aE,aE,dB b];rfl
 ·rw[if_neg (show ¬((decide (q≥0))&&(decide (q<(Q.length:Int))))=true by simp;omega),if_neg a]
theorem Cz{st:bj}(h:nr st)(hs:bm st.ae)(d:bL st.aj.ah){k:Nat}(hk:k<st.ae.length){j:aF}(e:j.Id=st.ae[k].Id)(a:j.Queue=st.ae[k].Queue) :
  ZN 1000 st j=some { st with ae:=st.ae.set k j,aj:={ ah:=DV st.aj.ah j.Queue,am:=st.aj.am } }:=by
 have b:=h.aR;have f:=h.aW;have g:=h.cI;have i:=h.use;have l:=h.stamps;unfold ZN YY;rw[jk (by omega),jk (by omega),jk (by omega),jk (by omega),jk (by omega)];simp only[Option.bind_some];rw[e,uh b hs hk,aE,cj hk,aE,aE,xAb,zK (by simpa using b) f (by omega) (by omega) (by omega) d,aE];dsimp only;rw[if_neg (by simp[a]),a]
end Go.Plain
end
section
namespace Go.Plain
open Go.Abs
variable{s:aU}{st st':bj}
theorem kr.up{j:aF}(h:kr s st j)(o:st.Next<=st'.Next)(i:st'.bF=st.bF):kr s st' j:=
 ⟨h.ok,by have:=h.next;omega,h.user,h.queue,by rw[i];exact h.born,by rw[i];exact h.start,by rw[i];exact h.fin,h.version⟩
theorem l_.up{j:aF}{a:bp}(h:l_ s st j a)(e:st'.bF=st.bF):l_ s st' j a:=⟨h.Au,h.cp,h.xK,by rw[e];exact h.now⟩
theorem mem_set{l:List aF}{k:Nat}{j x:aF}(h:x∈l.set k j):x=j∨x∈l:=by
 rcases Vr h with h | h
 ·exact .inr h
 ·exact .inl h
theorem idsC{l:List aF}{k:Nat}(hk:k<l.length){j:aF}(e:j.Id=l[k].Id){d:Int}(h:∃i∈l,i.Id=d):∃i∈l.set k j,i.Id=d:=by
 obtain ⟨x,b,rfl⟩:=h;obtain ⟨m,a,rfl⟩:=pD b;by_cases c:k=m
 ·subst c;exact ⟨j,yBE.2 ⟨k,by simpa using a,by simp⟩,e⟩
 ·exact ⟨l[m],yBE.2 ⟨m,by simpa using a,by rw[xAl c]⟩,rfl⟩
theorem UT{l:List aF}(hs:bm l){k:Nat}(hk:k<l.length){j x:aF}(h:x∈l.set k j):x=j∨x∈l/\x.Id≠l[k].Id:=by
 obtain ⟨m,a,rfl⟩:=pD h;rw[SU] at a;by_cases c:k=m
 ·subst c;exact .inl (by simp)
 ·rw[xAl c];exact .inr ⟨bR _,λe=>c (hs.inj a hk e).symm⟩
structure Rt (s:aU) (st:bj) (o j:aF):Prop where
 id:j.Id=o.Id
 KD:kr s st j
 fits:j.State<5->Bx 1000 s j.Queue j.aD j.au=some true
 after:j.ay=o.ay
 live:j.State<5->o.State<5
theorem Rt.waits{k:Nat}(hk:k<st.ae.length){j:aF}(r:Rt s st st.ae[k] j)(q:aI s st)(e:st'.ae=st.ae.set k j):∀x∈st'.ae,EX s st' x:=by
 intro x o hs;rw[e] at o;have up:∀d,(∃i∈st.ae,i.Id=d)->∃i∈st'.ae,i.Id=d:=λd h=>by rw[e];exact idsC hk r.id h
 rcases mem_set o with rfl | o
 ·refine ⟨r.fits hs,λd hd=>up _ ?_⟩;rw[r.after] at hd;exact (q.waits _ (bR hk) (r.live hs)).after d hd
 ·have:=q.waits x o hs;exact ⟨this.fits,λd hd=>up _ (this.after d hd)⟩
theorem Rt.aR{k:Nat}(hk:k<st.ae.length){j:aF}(r:Rt s st st.ae[k] j)(q:aI s st)(e:st'.ae=st.ae.set k j)(u:st'.Next=st.Next)(o:st'.bF=st.bF):cJ s st':=by
 refine ⟨by rw[e,SU];exact q.aR.len,λx i=>?_,by rw[e];exact pU q.aR.aY hk r.id⟩;rw[e] at i;rcases mem_set i with rfl | i
 ·exact r.KD.up (by omega) o
 ·exact (q.aR.each x i).up (by omega) o
theorem QU(q:aI s st){j:aF}(k:j.Id=st.Next)(t:bM j)(g:(st.ae.length:Int)+1<=s.ae)(u:st.Next<=s.eJ)(v:j.az<s.aG)(w:j.Queue<s.ah.length)
  (o:j.State=1) (y:j.ab=1) (M:j.bI=st.bF) (N:j.Start=0) (O:j.End=0) (l:Bx 1000 s j.Queue j.aD j.au=some true) (m:∀d∈j.ay,∃i∈st.ae,i.Id=d.aK)
  {Q:List Int} (z:bL Q) (E:Q.length=st.aj.ah.length) :
  aI s { st with ae:=st.ae++[j],Next:=st.Next+1,aj:={ ah:=Q,am:=st.aj.am } }:=by
 obtain ⟨R,H⟩:=sA q.spec q.aR q.aW;have p:=q.ee.now;have r:=q.spec.dr;have G:=q.ee.next;have K:dE j=false:=by simp[dE,o]
 have up:∀d,(∃i∈st.ae,i.Id=d)->∃i∈st.ae++[j],i.Id=d:=λd ⟨i,k,e⟩=>⟨i,Zk _ k,e⟩;have new:∀a∈st.ai,a.aK≠j.Id:=λa f e=>by
  obtain ⟨x,b,P⟩:=q.aW.mem a f;have:=(q.aR.each x b).next
  have:=P.Au;omega
 have J:cJ s { st with ae:=st.ae++[j],Next:=st.Next+1,aj:={ ah:=Q,am:=st.aj.am } }:=by
  refine ⟨by simpa using g,λx b=>?_,Lv q.aR.aY λx b=>?_⟩
  ·rcases zC.1 b with b | b
   ·exact (q.aR.each x b).up (by show st.Next<=st.Next+1;omega) rfl
   ·rw[Kz] at b;subst b;exact ⟨t,by show x.Id<st.Next+1;omega,v,w,by show x.bI<=st.bF;omega,by show x.Start<=st.bF;omega,by show x.End<=st.bF;omega,by rw[y,o];simp[hY];omega⟩
  ·have:=(q.aR.each x b).next
   omega
 refine ⟨q.spec,⟨q.ee.now,by show 1<=st.Next+1/\st.Next+1<=s.eJ+1;omega,q.ee.book⟩,J,λx b hs=>?_,GP q.spec J ⟨λi k=>?_,R.fit⟩ λx b=>?_,⟨q.cE.cI,q.cE.live,λa f=>?_⟩,⟨q.use.len,q.use.use,by simpa[E] using q.use.LM,q.use.nodes,z⟩⟩
 ·rcases zC.1 b with b | b
  ·have:=q.waits x b hs;exact ⟨this.fits,λd hd=>up _ (this.after d hd)⟩
  ·rw[Kz] at b;subst b;exact ⟨l,λd hd=>up _ (m d hd)⟩
 ·have A:=R.each i k;exact ⟨A.up,up _ A.Au,A.shares,A.cp⟩
 ·rcases zC.1 b with b | b
  ·have h:=H x b;exact ⟨h.has,λa f e=>(h.KY a f e).up rfl⟩
  ·rw[Kz] at b;subst b;refine ⟨⟨λ⟨a,f,e⟩=>absurd e (new a f),λh=>by rw[K] at h;cases h⟩,λa f e=>absurd e (new a f)⟩
 ·intro x b e;rcases zC.1 b with b | b
  ·exact q.cE.Aj a f x b e
  ·rw[Kz] at b;subst b;exact absurd e.symm (new a f)
theorem asc_at{A:List bp}(h:nN A):∀i (a:i<A.length),∀m (h:m<A.length),m+1=i->A[m].aK<A[i].aK:=λi a m b e=>by have:=ZA.1 h m i (by simpa using b) (by simpa using a) (by omega);simpa using this
theorem Lw(q:aI s st){k:Nat}(hk:k<st.ae.length){j:aF}(r:Rt s st st.ae[k] j)(l:dE j=false)
  {Q:List Int} (t:bL Q) (u:Q.length=st.aj.ah.length) {n:Int} (v:0<=n/\n<=281474976710656) :
  aI s { st with ae:=st.ae.set k j,ai:=xG st.ai st.ae[k].Id,aj:={ ah:=Q,am:=n } }:=by
 obtain ⟨R,H⟩:=sA q.spec q.aR q.aW;have J:=r.aR (st':={ st with ae:=st.ae.set k j,ai:=xG st.ai st.ae[k].Id,aj:={ ah:=Q,am:=n } }) hk q rfl rfl rfl;have p:=nC q;have HP:=R.HP;refine ⟨q.spec,⟨q.ee.now,q.ee.next,q.ee.book⟩,J,r.waits hk q rfl,GP q.spec J ⟨λi g=>?_,?_⟩ λx d=>?_,⟨q.cE.cI,q.cE.live,λa b=>?_⟩,⟨q.use.len,q.use.use,by simpa[u] using q.use.LM,v,t⟩⟩
 ·obtain ⟨b,f⟩:=fG (bR g);obtain ⟨x,d,P⟩:=q.aW.mem _ b;refine ⟨asc_at (L_ p _) i g,idsC hk r.id ⟨x,d,P.Au.symm⟩,(HP _ b).1,(HP _ b).2⟩
 ·intro i g c;have w:=R.fit i g c;rcases Classical.em (∃a∈st.ai,a.aK=st.ae[k].Id) with ⟨a,b,e⟩ | m
  ·have y:=mU p b i c;have E:=Gw (HP a b) i c;rw[e] at y;show ow (xG st.ai st.ae[k].Id) i c<=_;omega
  ·rw[tD λa b e=>m ⟨a,b,e⟩];exact w
 ·rcases UT q.aR.aY hk d with rfl | ⟨d,c⟩
  ·refine ⟨⟨λ⟨a,b,e⟩=>absurd (by rw[e,r.id]) (fG b).2,λh=>by rw[l] at h;cases h⟩,λa b e=>absurd (by rw[e,r.id]) (fG b).2⟩
  ·have h:=H x d;refine ⟨⟨λ⟨a,b,e⟩=>h.has.1 ⟨a,(fG b).1,e⟩,λz=>?_⟩,λa b e=>(h.KY a (fG b).1 e).up rfl⟩;obtain ⟨a,b,e⟩:=h.has.2 z;exact ⟨a,S_.2 ⟨b,by simpa using λA=>c (by rw[<-e,A])⟩,e⟩
 ·intro x d e;obtain ⟨o,f⟩:=fG b;rcases mem_set d with rfl | d
  ·exact absurd (by rw[<-e,r.id]) f
  ·exact q.cE.Aj a o x d e
end Go.Plain
end
section
namespace Go.Plain
open Go.Abs
theorem Vf{α:Type}{L:List (Int×α)}{k:Int}{a:α}(h:bT L k=some a):(k,a)∈L:=by
 induction L with
 |nil=>simp[bT] at h
 |cons p L ih=>
  obtain ⟨b,d⟩:=p;simp only[bT] at h;split at h
  ·rename_i e;injection h with h
   subst e h;exact pe ..
  ·exact pG _ (ih h)
theorem Tp{α:Type}{L:List (Int×α)}{k:Int}{a:α}(h:bT L k=none):dy L k a=L++[(k,a)]:=by
 induction L with
 |nil=>rfl
 |cons p L ih=>
  obtain ⟨b,d⟩:=p;simp only[bT] at h;split at h
  ·simp at h
  ·rename_i e;simp only[dy,if_neg e,ih h,List.cons_append]
theorem HB{α:Type}{L:List (Int×α)}{k:Int}(h:bT L k=none):∀p∈L,p.1≠k:=by
 induction L with
 |nil=>simp
 |cons p L ih=>
  obtain ⟨b,d⟩:=p;simp only[bT] at h;split at h
  ·simp at h
  ·rename_i e;intro q a;rcases me.1 a with rfl | a
   ·exact e
   ·exact ih h q a
theorem DC{α:Type}(L:List (Int×α))(k:Int):(tT L k).Sublist L:=by
 induction L with
 |nil=>exact List.Sublist.slnil
 |cons p L ih=>
  obtain ⟨a,b⟩:=p;simp only[tT];split
  ·exact List.sublist_cons_self ..
  ·exact ih.cons₂ _
structure qE (n:Nat) (m:Int) (L:List (Int×bp)):Prop where
 nodup:(L.map Prod.fst).Nodup
 len:L.length<=256+n
 each:∀p∈L,(0<=p.1/\p.1<=1048576)/\p.2.an.length<=300/\bK p.2.an m/\aX p.2.au
theorem qE.mono{n:Nat}{m:Int}{L:List (Int×bp)}(h:qE n m L):qE (n+1) m L:=⟨h.nodup,by have:=h.len;omega,h.each⟩
theorem qE.del{n:Nat}{m:Int}{L:List (Int×bp)}(h:qE n m L)(k:Int):qE n m (tT L k):=
 ⟨h.nodup.sublist ((DC L k).map _),mA (DC L k).length_le h.len,λp i=>h.each p ((DC L k).subset i)⟩
theorem qE.add{n:Nat}{m:Int}{L:List (Int×bp)}(h:qE n m L){a:bp}(j:bT L a.aK=none)(u:0<=a.aK/\a.aK<=1048576)(z:a.an.length<=300)(A:bK a.an m)(E:aX a.au):qE (n+1) m (dy L a.aK a):=by
 rw[Tp j];refine ⟨?_,by have:=h.len;simp;omega,λp i=>?_⟩
 ·rw[Wv,List.nodup_append];refine ⟨h.nodup,by simp,λx G y o=>?_⟩;obtain ⟨p,i,rfl⟩:=jJ.1 G;simp at o;subst o;exact HB j p i
 ·rcases zC.1 i with i | i
  ·exact h.each p i
  ·simp at i;subst i;exact ⟨u,z,A,E⟩
theorem Xe{n:Nat}{m:Int}{L:List (Int×bp)}(h:qE n m L)(G:n<=30):ce (VE 1000 L) λA=>A.length<=300/\∀a∈A,a.an.length<=300:=by
 have M:=h.len;unfold VE BW;rw[if_pos ⟨by omega,h.nodup,λp q=>Zm (h.each p q).1⟩,aE];have hk:(((L.map Prod.fst).mergeSort (λx y=>decide (x<=y))).map (λk=>k)).length=L.length:=by simp
 generalize ((L.map Prod.fst).mergeSort (λx y=>decide (x<=y))).map (λk=>k)=K at hk ⊢;refine oe K.length (λi x=>x.1=(i:Int)/\x.2.length=i/\∀a∈x.2,a.an.length<=300) (λi x f j g r=>?_) (λx f g=>?_) ⟨rfl,rfl,by simp⟩ (by omega)
 ·obtain ⟨t,l⟩:=x;obtain ⟨rfl,e,d⟩:=g;dsimp only at e d ⊢;simp only[cK j,if_true,cj j,Option.bind_some,bV (show i<1000000 by omega)];have o:∀v:bp,v.an.length<=300->ce ((fJ 1000 v).bind λu=>(bU l ([u]:List bp)).bind λw=>f (((i+1:Nat):Int),w)) λA=>A.length<=300/\∀a∈A,a.an.length<=300:=λv z=>by
   rw[zG (by omega),aE,dx (by simp;omega),aE];refine r _ ⟨rfl,by simp[e],λa b=>?_⟩;rcases zC.1 b with b | b
   ·exact d a b
   ·simp at b;subst b;exact z
  cases E:bT L K[i] with
  |none=>exact o { aK:=0,au:={ bP:=0,Mem:=0,bS:=0,b_:=0 },an:=[] } (OL _)
  |some v=>exact o v (h.each _ (Vf E)).2.1
 ·obtain ⟨t,l⟩:=x;obtain ⟨rfl,e,d⟩:=g;dsimp only at e d ⊢;simp only[cM,a_,bn,bA];exact ⟨by omega,d⟩
end Go.Plain
end
section
namespace Go.Plain
open Go.Abs
structure QI (s:aU) (n:Nat) (now next book:Int) (B:List cg) (U:List Int) (nd:Int) (F:List aJ) (Q:List Int) (L:List (Int×bp)) (J:List aF):Prop where
 jl:(J.length:Int)<=s.ae
 srt:bm J
 ok:∀j∈J,bM j
 ids:∀j∈J,j.Id<next
 nx:1<=next/\next<=s.eJ+1
 qin:bL Q
 ql:Q.length<=20
 nd:0<=nd
 now:0<=now/\now<=1099511627776
 bk:1<=book/\book<=281474976710656
 bl:B.length<=16
 us:U.length<=20
 fl:F.length<=40
 fv:∀r∈F,aX r
 led:qE n F.length L
section
variable{s:aU}{n:Nat}{now next book:Int}{B:List cg}{U:List Int}{nd:Int}{F:List aJ}{Q:List Int}{L:List (Int×bp)}{J:List aF}
theorem QI.jl'(h:QI s n now next book B U nd F Q L J)(k:aZ s):J.length<=256:=by have:=h.jl;have:=k.aR;omega
def wb(J:List aF)(id:Int):Option aF:=J.find? λj=>decide (j.Id=id)
theorem Do(hs:bm J){k:Nat}(hk:k<J.length):wb J J[k].Id=some J[k]:=by
 unfold wb;cases h:J.find? λj=>decide (j.Id=J[k].Id) with
 |none=>rw[List.find?_eq_none] at h;exact absurd (by simp) (h _ (bR hk))
 |some j=>have a:=List.find?_some h;have b:=List.mem_of_find?_eq_some h;obtain ⟨m,d,rfl⟩:=pD b;have:=hs.inj d hk (by simpa using a);subst this;rfl
theorem Dz{id:Int}(h:∀j∈J,j.Id≠id):wb J id=none:=by unfold wb;rw[List.find?_eq_none];intro j a;simpa using h j a
def Zt(J:List aF)(id:Int):Int:=match wb J id with | some j=>j.ab | none=>0
def za(P:Int->Prop)[DecidablePred P](J:List aF)(q:Int):Int:=(J.map λj=>if j.Queue=q/\P j.State then (1:Int) else 0).sum
def Mt(J:List aF)(q:Int):Int×Int×Int:=(za bo J q,za (λx=>x=2) J q,za fI J q)
structure Chg (J:List aF) (Q:List Int) (nd:Int) (F:List aJ) (J':List aF) (Q':List Int) (nd':Int) (F':List aJ):Prop where
 Au:∀id,Zt J' id=Zt J id->wb J' id=wb J id
 len:Q'.length=Q.length
 que:∀q:Nat,q<Q.length->Q'[q]? = Q[q]?->Mt J' (q:Int)=Mt J (q:Int)
 nod:nd'=nd->F'=F
theorem Chg.same(J:List aF)(Q:List Int)(nd:Int)(F:List aJ):Chg J Q nd F J Q nd F:=⟨λ_ _=>rfl,rfl,λ_ _ _=>rfl,λ_=>rfl⟩
end
end Go.Plain
end
section
namespace Go.Plain
open Go.Abs
section
variable{s:aU}{n:Nat}{now next book:Int}{B:List cg}{U:List Int}{nd:Int}{F:List aJ}{Q:List Int}{L:List (Int×bp)}{J:List aF}
theorem QI.mono(h:QI s n now next book B U nd F Q L J):QI s (n+1) now next book B U nd F Q L J:={ h with led:=h.led.mono }
theorem QI.set(h:QI s n now next book B U nd F Q L J){i:Nat}(A:i<J.length){j:aF}(E:j.Id=J[i].Id)(K:bM j){q:Int}{m:Nat}{o:Int}{u:List aJ}{G:List (Int×bp)}(M:0<=o)(O:u.length=F.length)(R:∀r∈u,aX r)(W:qE m u.length G):QI s m now next book B U o u (DV Q q) G (J.set i j):={
 jl:=by simpa using h.jl
 srt:=pU h.srt A E
 ok:=λx z=>by
  rcases Vr z with q | q
  ·exact h.ok x q
  ·subst q;exact K
 ids:=λx z=>by
  rcases Vr z with q | q
  ·exact h.ids x q
  ·subst q;rw[E];exact h.ids _ (bR A)
 nx:=h.nx
 qin:=fO h.qin _
 ql:=by rw[lZ];exact h.ql
 nd:=M
 now:=h.now
 bk:=h.bk
 bl:=h.bl
 us:=h.us
 fl:=by rw[O];exact h.fl
 fv:=R
 led:=W }
theorem Qs(k:aZ s)(h:QI s n now next book B U nd F Q L J)(a:n<=30):∃A,KE 1000 Q J L now next book B U nd=some { bF:=now,Next:=next,aO:=book,ae:=J,ai:=A,aC:=B,dl:=U,aj:={ ah:=Q,am:=nd } }:=by have d:=h.jl' k;have f:=h.bl;have g:=h.us;have hs:=h.ql;obtain ⟨A,e,_⟩:=Xe h.led a;refine ⟨A,?_⟩;unfold KE;rw[Ds (by omega) (λj b=>by have:=(h.ok j b).cw;omega),aE,e,aE,uc (by omega),aE,lX (by omega),aE,show zbp 1000 Q=some Q from jk (by omega),aE]
end
theorem qi_of{s:aU}{st:bj}(d:dN s st)(q:aI s st):QI s 0 st.bF st.Next st.aO st.aC st.dl st.aj.am (bY s.am st.ai) st.aj.ah (st.ai.map λa=>(a.aK,a)) st.ae:={
 jl:=q.aR.len
 srt:=q.aR.aY
 ok:=λj e=>(q.aR.each j e).ok
 ids:=λj e=>(q.aR.each j e).next
 nx:=q.ee.next
 qin:=q.use.stamps
 ql:=d.stamps
 nd:=q.use.nodes.1
 now:=q.ee.now
 bk:=q.ee.book
 bl:=q.cE.cI.len
 us:=d.use
 fl:=by rw[NF];exact d.spec.nodes
 fv:=J_ q
 led:=by
  have i:=nC q;refine ⟨?_,?_,λp k=>?_⟩
  ·rw[Uc];unfold nN at i;exact i.imp (λ{a b} h=>by omega)
  ·have:=(kF q).aW;have h:=(fP q.aW q.spec.nodes.ok).1;have l:=Ts List.length h;simp only[A_] at l;have m:(st.ae.filter dE).length<=st.ae.length:=List.length_filter_le _ _;have:=q.aR.len;have:=q.spec.aR;rw[A_];omega
  ·obtain ⟨a,f,rfl⟩:=jJ.1 k;have g:=yU q a f;rw[NF];exact ⟨uL q a f,d.sh a f,g.1,g.2⟩ }
end Go.Plain
end
section
namespace Go.Plain
open Go.Abs
def iB(l:List aF)(q:Int):Int:=(l.map λj=>if j.Queue=q/\bo j.State then (1:Int) else 0).sum
theorem sv{α:Type}{f:α->Int}{l:List α}{i:Nat}(h:i<l.length):((l.take (i+1)).map f).sum=((l.take i).map f).sum+f l[i]:=by rw[OI h,Wv,yBM];simp
theorem xU{α:Type}{f:α->Int}(b:∀x,0<=f x/\f x<=1)(l:List α):0<=(l.map f).sum/\(l.map f).sum<=l.length:=by
 induction l with
 |nil=>simp
 |cons a l ih=>have:=b a;simp only[oK,List.sum_cons,List.length_cons];omega
theorem nF{l:List aF}(A:l.length<=300)(q:Int):eK 1000 l q=some (iB l q):=by
 unfold eK;have g:ce (ca (λv (a:Int×Int)=>
   if (decide (a.2<(l.length:Int)))=true then
    jn (λ(w:Int)=>v (w,(IntKind.i64.wrap (a.2+1)))) λp=>
    (aL l a.2).bind λt=>
    (
     if (t.Queue == q)=true then
     (PY 1000 t.State).bind λy=>
     some y
     else
     some false).bind λz=>
    if z=true then
     p (IntKind.i64.wrap (a.1+1))
    else
     p a.1
   else
    some a.1) 1000 (0,0)) λr=>r=iB l q:=by
  refine oe l.length (λi x=>x=(iB (l.take i) q,(i:Int))) (λi x f k m o=>?_) (λx f m=>?_) (by simp[iB]) (by omega)
  ·subst m;have u:=xU (f:=λj:aF=>if j.Queue=q/\bo j.State then (1:Int) else 0) (λx=>by split <;> omega) (l.take i)
   rw[uC] at u;have b:iB (l.take (i+1)) q=iB (l.take i) q+(if l[i].Queue=q/\bo l[i].State then (1:Int) else 0):=sv k;simp only[cK k,if_true,cj k,Option.bind_some,bV (show i<1000000 by omega),fF,dt];by_cases d:l[i].Queue=q
   ·rw[if_pos (by simpa using d),aE];by_cases e:bo l[i].State
    ·rw[if_pos (by simpa using e)];rw[if_pos ⟨d,e⟩] at b;change 0<=iB _ q/\iB _ q<=_ at u;rw[wr (by omega) (by omega)];exact o _ (by rw[b])
    ·rw[if_neg (by simpa using e)];rw[if_neg (λh=>e h.2)] at b;exact o _ (by rw[b,CQ])
   ·rw[if_neg (by simpa using d),aE,if_neg (by simp)];rw[if_neg (λh=>d h.1)] at b;exact o _ (by rw[b,CQ])
  ·subst m;simp only[cM,a_,bn,bA,DO]
 rw[g.eq,aE]
theorem Ii(l:List aF)(q:Int):0<=iB l q/\iB l q<=l.length:=xU (λx=>by split <;> omega) l
end Go.Plain
end
section
namespace Go.Plain
open Go.Abs
theorem VS{F:List aJ}(h:F.length<=1000000):zcD 1000 F=some F:=by unfold zcD zde;rw[zP h];rfl
end Go.Plain
end
section
namespace Go.Plain
open Go.Abs
section
variable{s:aU}{n:Nat}{now next book:Int}{B:List cg}{U:List Int}{nd:Int}{F:List aJ}{Q:List Int}{L:List (Int×bp)}{J:List aF}
theorem uP(P:Int->Prop)[DecidablePred P](J:List aF)(q:Int):0<=za P J q/\za P J q<=J.length:=xU (λx=>by split <;> omega) J
theorem GM{l:List aF}(z:l.length<=300)(q:Int):kY 1000 l q=some (za fI l q):=by
 unfold kY;have g:ce (ca (λt (a:Int×Int)=>
   if (decide (a.2<(l.length:Int)))=true then
    jn (λ(u:Int)=>t (u,(IntKind.i64.wrap (a.2+1)))) λo=>
    (aL l a.2).bind λp=>
    (
     if (p.Queue == q)=true then
     (dK 1000 p.State).bind λv=>
     some v
     else
     some false).bind λw=>
    if w=true then
     o (IntKind.i64.wrap (a.1+1))
    else
     o a.1
   else
    some a.1) 1000 (0,0)) λr=>r=za fI l q:=by
  refine oe l.length (λi x=>x=(za fI (l.take i) q,(i:Int))) (λi x f j k m=>?_) (λx f k=>?_) (by simp[za]) (by omega)
  ·subst k;have y:=uP fI (l.take i) q;rw[uC] at y;have b:za fI (l.take (i+1)) q=za fI (l.take i) q+(if l[i].Queue=q/\fI l[i].State then (1:Int) else 0):=sv j;simp only[cK j,if_true,cj j,Option.bind_some,bV (show i<1000000 by omega),Db,dt];by_cases d:l[i].Queue=q
   ·rw[if_pos (by simpa using d),aE];by_cases e:fI l[i].State
    ·rw[if_pos (by simpa using e)];rw[if_pos ⟨d,e⟩] at b;rw[wr (by omega) (by omega)];exact m _ (by rw[b])
    ·rw[if_neg (by simpa using e)];rw[if_neg (λh=>e h.2)] at b;exact m _ (by rw[b,CQ])
   ·rw[if_neg (by simpa using d),aE,if_neg (by simp)];rw[if_neg (λh=>d h.1)] at b;exact m _ (by rw[b,CQ])
  ·subst k;simp only[cM,a_,bn,bA,DO]
 rw[g.eq,aE]
def QN(a:Int)(l:List Int):eC:={ Key:=a,ko:=0,aK:=0,ab:=0,cP:=l }
def QO(a e:Int):eC:={ Key:=a,ko:=e,aK:=0,ab:=0,cP:=[] }
def GB(s:aU)(r:dw)(J:List aF)(F:List aJ):eC:=
 if r.Kind=8 then (match wb J r.aK with | some j=>{ Key:=r.Key,ko:=0,aK:=j.Id,ab:=j.ab,cP:=[j.State,j.Queue,j.Start,j.End] } | none=>QO r.Key 30)
 else if r.Kind=9 then (if 0<=r.Queue/\r.Queue<s.ah.length then QN r.Key [(Mt J r.Queue).1-(Mt J r.Queue).2.1,(Mt J r.Queue).2.1,(Mt J r.Queue).2.2] else QO r.Key 30)
 else if r.Kind=10 then QN r.Key (F.flatMap λf=>[f.bP,f.Mem,f.bS,f.b_])
 else QO r.Key 2
theorem Dv(G:List aJ):(G.flatMap λf=>[f.bP,f.Mem,f.bS,f.b_]).length=G.length * 4:=by
 induction G with
 |nil=>rfl
 |cons f G ih=>rw[YA,Gh,ih];simp;omega
theorem SF(h:QI s n now next book B U nd F Q L J)(r:dw):(GB s r J F).cP.length<=300:=by
 have a:=h.fl;unfold GB;split
 ·split <;> simp[QO]
 ·split
  ·split <;> simp[QO,QN]
  ·split
   ·simp only[QN,Dv];omega
   ·simp[QO]
theorem OV(k:aZ s)(h:QI s n now next book B U nd F Q L J)(id:Int):(∃j,wb J id=some j/\KL 1000 J id=some (j,true))∨(wb J id=none/\KL 1000 J id=some (UO,false)):=by
 have d:=h.jl' k;rcases zL J id with ⟨m,b,rfl⟩ | a
 ·have:=(h.ok _ (bR b)).cw;exact .inl ⟨_,Do h.srt b,sQ (by omega) h.srt b (by omega)⟩
 ·exact .inr ⟨Dz a,Ct (by omega) h.srt a⟩
theorem SQ(hs:d_ s)(k:aZ s)(h:QI s n now next book B U nd F Q L J)(w:n<=30)(r:dw) :
  fX 1000 Q J L r s.am s.aQ s.ah s.aG s.ar.pF s.ar.dh s.ar.jT s.ar.bX s.bZ s.Mode s.ae s.eJ s.aB s.bC s.dg s.In s.Out s.bW now next book B U nd F=some (GB s r J F):=by
 have z:=h.jl' k;have E:=h.fl;unfold fX zW;rw[aE];by_cases b:r.Kind=8
 ·rw[if_neg (by simp[b]),if_pos (by simp[b])];unfold zeH GB;rw[if_pos b];rcases OV k h r.aK with ⟨j,q,t⟩ | ⟨q,t⟩
  ·rw[q,t,aE];rfl
  ·rw[q,t,aE];rfl
 by_cases d:r.Kind=9
 ·rw[if_neg (by simp[d]),if_neg (by simp[d]),if_pos (by simp[d])];unfold zdD GB;rw[if_neg b,if_pos d];dsimp only[dt];by_cases u:r.Queue<0
  ·rw[if_pos (by simpa using u),if_neg (show ¬(0<=r.Queue/\r.Queue<s.ah.length) by omega)];rfl
  ·rw[if_neg (by simpa using u),OR hs,aE];by_cases v:r.Queue≥s.ah.length
   ·rw[if_pos (by simpa using v),if_neg (show ¬(0<=r.Queue/\r.Queue<s.ah.length) by omega)];rfl
   ·rw[if_neg (by simpa using v),if_pos (show 0<=r.Queue/\r.Queue<s.ah.length by omega)];obtain ⟨A,e⟩:=Qs k h w;rw[e,aE];dsimp only;refine ce.eq ?_;rw[lM];refine oe J.length (λi x=>x=(za (λx=>x=2) (J.take i) r.Queue,(i:Int))) (λi x f g l m=>?_) (λx f l=>?_) (by simp[za]) (by omega)
    ·subst l;have y:=uP (λx=>x=2) (J.take i) r.Queue;rw[uC] at y;have o:za (λx=>x=2) (J.take (i+1)) r.Queue=za (λx=>x=2) (J.take i) r.Queue+(if J[i].Queue=r.Queue/\J[i].State=2 then (1:Int) else 0):=sv g;simp only[cK g,if_true,cj g,Option.bind_some,bV (show i<1000000 by omega)];by_cases p:J[i].Queue=r.Queue/\J[i].State=2
     ·rw[if_pos (by simpa using p)];rw[if_pos p] at o;rw[wr (by omega) (by omega)];exact m _ (by rw[o])
     ·rw[if_neg (by simpa using p)];rw[if_neg p] at o;exact m _ (by rw[o,CQ])
    ·subst l;have G:=Ii J r.Queue;have K:=uP (λx=>x=2) J r.Queue;simp only[cM,a_,bn,DO];rw[nF (by omega),aE,GM (by omega),aE];rw[wr (by omega) (by omega)];exact ⟨_,rfl,_,rfl,rfl⟩
 by_cases a:r.Kind=10
 ·rw[if_neg (by simp[a]),if_neg (by simp[a]),if_neg (by simp[a])];unfold zdI GB;rw[if_neg b,if_neg d,if_pos a,VS (by omega),aE];refine ce.eq ?_;rw[lM];refine oe F.length (λi x=>x=((i:Int),(F.take i).flatMap λf=>[f.bP,f.Mem,f.bS,f.b_])) (λi x f g l m=>?_) (λx f l=>?_) (by simp) (by omega)
  ·subst l;simp only[cK g,if_true,cj g,Option.bind_some,bV (show i<1000000 by omega)];rw[dx (by rw[Dv,uC];simp;omega),aE];refine m _ ?_;rw[OI g,yBJ];simp
  ·subst l;simp only[cM,a_,bn,DO];exact ⟨_,rfl,_,rfl,rfl⟩
 rw[if_pos (by simp[b,d,a])];unfold GB;rw[if_neg b,if_neg d,if_neg a];rfl
end
theorem Mr(a:eC)(h:a.cP.length<=300):zdd 1000 a a=some true:=by unfold zdd;rw[if_pos (by simp),oH _ h,aE]
end Go.Plain
end
section
namespace Go.Plain
open Go.Abs
theorem fZ{s:aU}(hs:d_ s)(k:aZ s):Oj 1000 s=some true:=by obtain ⟨r,e,h⟩:=pI s hs;rw[e,h.2 k]
theorem yX{s:aU}{q:Int}(h:0<=q/\q<s.ah.length):∃a:q.toNat<s.ah.length,aL s.ah q=some (s.ah[q.toNat]'a):=ey h.1 h.2
theorem GU{s:aU}(hs:d_ s)(k:aZ s){l:List aF}(d:l.length<=300){q m:Int}(g:0<=m/\m<=256) :
  dv (Vl 1000 s l q m) (∃h:0<=q/\q.toNat<s.ah.length,iB l q+m<=(s.ah[q.toNat]'h.2).dS):=by
 have b:=Ii l q;unfold Vl ng;by_cases a:0<=q/\q<s.ah.length
 ·obtain ⟨f,e⟩:=yX a;rw[if_pos (by simp;omega),fZ hs k,aE,aE,if_neg (by simp;omega),nF d,aE,e,aE,wr (by omega) (by omega),dv,bA,bb];exact ⟨λh=>⟨⟨a.1,f⟩,h⟩,λ⟨_,h⟩=>h⟩
 ·rw[if_neg (by simp;omega),aE,if_pos (by simp)];exact cy λ⟨h,_⟩=>a (by omega)
theorem Aw{s:aU}(hs:d_ s)(k:aZ s)(q u:Int):∃b,ZK 1000 s q u=some b:=by
 unfold ZK;rw[fZ hs k,aE];split
 ·exact ⟨_,rfl⟩
 ·rename_i h;simp only[dW,bb,not_or,zM,a_] at h;obtain ⟨a,e⟩:=yX (s:=s) (q:=q) (by omega);rw[e,aE];split
  ·exact ⟨_,rfl⟩
  ·have d:=hs.queue _ (bR a);obtain ⟨b,e,_⟩:=to _ (mA d (by decide)) u;rw[e];exact ⟨_,rfl⟩
end Go.Plain
end
section
namespace Go.Plain
open Go.Abs
variable{s:aU}{st:bj}
theorem dv.same{a b:Option Bool}{p:Prop}(i:dv a p)(j:dv b p):a=b:=by obtain ⟨x,rfl,o⟩:=i;obtain ⟨y,rfl,u⟩:=j;congr 1;cases x <;> cases y <;> simp_all
theorem Cc(hs:d_ s)(k:aZ s)(q u:Int):zcf 1000 s q u=ZK 1000 s q u:=by
 unfold ZK zcf;rw[fZ hs k,aE];by_cases h:0<=q/\q<s.ah.length/\0<=u/\u<s.aG
 ·obtain ⟨b,e⟩:=yX (s:=s) (q:=q) ⟨h.1,h.2.1⟩;have a:=hs.queue _ (bR b);rw[if_neg (by simp;omega),if_neg (by simp;omega),e,aE,aE,(to _ (mA a (by decide)) u).same (OO _ (mA a (by decide)) u)]
 ·rw[if_pos (by simp;omega),if_pos (by simp;omega)]
theorem WE{l:List aF}(p:l.length<=300)(q:Int):zdS 1000 l q (1,2) (-1)=some (iB l q):=by
 unfold zdS;refine ce.eq (oe l.length (λi x=>x=(iB (l.take i) q,(i:Int))) (λi x f k m d=>?_) (λx f m=>?_) (by simp[iB]) (by omega))
 ·subst m;have o:=xU (f:=λj:aF=>if j.Queue=q/\bo j.State then (1:Int) else 0) (λx=>by split <;> omega) (l.take i)
  rw[uC] at o;change 0<=iB _ q/\iB _ q<=_ at o;have a:iB (l.take (i+1)) q=iB (l.take i) q+(if l[i].Queue=q/\bo l[i].State then (1:Int) else 0):=sv k;simp only[cK k,if_true,cj k,Option.bind_some,bV (show i<1000000 by omega),dt];by_cases b:l[i].Queue=q
  ·rw[if_pos (by simpa using b)];by_cases e:l[i].State=1
   ·rw[if_pos (by simpa using e),if_pos (by simp),wr (by omega) (by omega)];rw[if_pos ⟨b,.inl e⟩] at a;exact d _ (by rw[a])
   ·rw[if_neg (by simpa using e)];by_cases g:l[i].State=2
    ·rw[if_pos (by simpa using g),if_pos (by simp),wr (by omega) (by omega)];rw[if_pos ⟨b,.inr g⟩] at a;exact d _ (by rw[a])
    ·rw[if_neg (by simpa using g),if_neg (by simp)];rw[if_neg (λh=>h.2.elim e g)] at a;exact d _ (by rw[a,CQ])
  ·rw[if_neg (by simpa using b),if_neg (by simp)];rw[if_neg (λh=>b h.1)] at a;exact d _ (by rw[a,CQ])
 ·subst m;simp only[cM,a_,bn,bA,DO]
theorem G_(hs:d_ s)(k:aZ s){l:List aF}(a:l.length<=300){q m:Int}:zbU 1000 s l q m=Vl 1000 s l q m:=by
 unfold Vl ng zbU;by_cases b:0<=q/\q<s.ah.length
 ·obtain ⟨d,e⟩:=yX b;by_cases f:0<=m/\m<=256
  ·rw[if_neg (by simp;omega),if_pos (by simp;omega),fZ hs k,aE,aE,if_neg (by simp;omega),nF a,WE a,aE]
  ·rw[if_pos (by simp;omega),if_pos (by simp;omega),fZ hs k,aE,aE,if_pos (by simp;omega)]
 ·rw[if_pos (by simp;omega),if_neg (by simp;omega),aE,if_pos (by simp)]
theorem GH{l:List aF}(b:l.length<=300){id:Int}(d:∀j∈l,j.Id≠id):∃r,Fv 1000 l id=some r/\r<0:=by
 obtain ⟨r,e,f,_,_⟩:=oB b id;refine ⟨r,e,?_⟩;by_cases g:0<=r
 ·obtain ⟨j,a,h⟩:=f.1 g;exact absurd h (d j a)
 ·omega
theorem SM{F:List aJ}{A:List bp}(hF:F.length<=300)(hA:A.length<=300)(hs:∀a∈A,a.an.length<=300)(h:qH F.length A)(K:∀r∈F,aX r):∃b,Zo 1000 F A=some (bY F A,b):=by
 have M:(bY F A).length=F.length:=NF
 suffices H:ce (Zo 1000 F A) λr=>r.1=bY F A by obtain ⟨⟨x,b⟩,e,rfl⟩:=H;exact ⟨b,e⟩
 unfold Zo;refine oe F.length (λi x=>x.2.1=(i:Int)/\x.2.2=(bY F A).take i) (λi x f m u E=>?_) (λx f u=>?_) ⟨rfl,rfl⟩ (by omega)
 ·obtain ⟨N,O,j⟩:=x;obtain ⟨l,d⟩:=u;dsimp only at l d;subst l;simp only[cK m,if_true];refine oe A.length (λk y=>y=((k:Int),ow (A.take k) i 0,ow (A.take k) i 1,ow (A.take k) i 2,ow (A.take k) i 3)) (λk y g hk v P=>?_) (λy g v=>?_) (by simp[ow]) (by omega)
  ·subst v;have w:=h _ (bR hk);have o:qH F.length (A.take (k+1)):=λa R=>h a (WV R);have lk:((A.take (k+1)).length:Int)<=300:=by rw[uC];omega
   have S:=eW o i 0;have T:=eW o i 1;have W:=eW o i 2;have X:=eW o i 3;rw[Vp hk] at S T W X;simp only[cK hk,if_true,cj hk,Option.bind_some,KZ (hs _ (bR hk)) w.1,zY w.2 (Bt w.1 i),YW,bV (show k<1000000 by omega)];refine P _ ?_;rw[Vp hk,Vp hk,Vp hk,Vp hk];have Y:(mulR (dZ A[k].an i) A[k].au).bP=dZ A[k].an i * cmp 0 A[k].au:=rfl;have Z:(mulR (dZ A[k].an i) A[k].au).Mem=dZ A[k].an i * cmp 1 A[k].au:=rfl;have e2:(mulR (dZ A[k].an i) A[k].au).bS=dZ A[k].an i * cmp 2 A[k].au:=rfl;have e3:(mulR (dZ A[k].an i) A[k].au).b_=dZ A[k].an i * cmp 3 A[k].au:=rfl;rw[Y,Z,e2,e3,wr (x:=_+dZ A[k].an i * cmp 0 A[k].au) (by omega) (by omega),wr (x:=_+dZ A[k].an i * cmp 1 A[k].au) (by omega) (by omega),wr (x:=_+dZ A[k].an i * cmp 2 A[k].au) (by omega) (by omega),wr (x:=_+dZ A[k].an i * cmp 3 A[k].au) (by omega) (by omega)]
  ·subst v;have ap:∀z:aJ,bU j [z]=some (j++[z]):=λz=>dx (by rw[d,uC];simp;omega);have p:=eW h i;have q:=λc=>ug (A:=A) m (by omega) c;have t:=K _ (bR m);have v0:=t.Av;have v1:=t.mem;have v2:=t.Br;have v3:=t.BH;have g0:=p 0;have g1:=p 1;have g2:=p 2;have g3:=p 3;have el:({ bP:=IntKind.i64.wrap (F[i].bP-ow A i 0),Mem:=IntKind.i64.wrap (F[i].Mem-ow A i 1),bS:=IntKind.i64.wrap (F[i].bS-ow A i 2),b_:=IntKind.i64.wrap (F[i].b_-ow A i 3) }:aJ)=(bY F A)[i]'(by omega):=by
    rw[wr (by omega) (by omega),wr (by omega) (by omega),wr (by omega) (by omega),wr (by omega) (by omega)];have c0:((bY F A)[i]'(by omega)).bP=F[i].bP-ow A i 0:=q 0;have c1:((bY F A)[i]'(by omega)).Mem=F[i].Mem-ow A i 1:=q 1;have c2:((bY F A)[i]'(by omega)).bS=F[i].bS-ow A i 2:=q 2;have c3:((bY F A)[i]'(by omega)).b_=F[i].b_-ow A i 3:=q 3;rw[<-c0,<-c1,<-c2,<-c3]
   have G:∀b,((b,((i+1:Nat):Int),j++[(bY F A)[i]'(by omega)]):Bool×Int×List aJ).2.1=((i+1:Nat):Int)/\((b,((i+1:Nat):Int),j++[(bY F A)[i]'(by omega)]):Bool×Int×List aJ).2.2=(bY F A).take (i+1):=λb=>⟨rfl,by dsimp only;rw[d,OI (by omega)]⟩
   simp only[cM,a_,bn,dt,cj m,Option.bind_some,ze1,ap,bV (show i<1000000 by omega),DO,el];rw[bD];exact ⟨λ_=>(Jw _ _).bind λr _=>E _ (G _),λ_=>E _ (G _)⟩
 ·obtain ⟨N,O,j⟩:=x;obtain ⟨l,d⟩:=u;dsimp only at l d;subst l;simp only[cM,a_,bn,bA];rw[d,<-M,DO]
theorem zS{J:List aF}{i:Nat}(h:i<J.length)(q:Int)(P:Int->Prop)[DecidablePred P]:za P (J.take (i+1)) q=za P (J.take i) q+(if J[i].Queue=q/\P J[i].State then (1:Int) else 0):=sv h
theorem RM(J:List aF)(q:Int):za bo J q-za (λx=>x=2) J q=za (λx=>x=1) J q:=by
 induction J with
 |nil=>simp[za]
 |cons j J ih=>
  have e:∀(P:Int->Prop)[DecidablePred P],za P (j::J) q=(if j.Queue=q/\P j.State then (1:Int) else 0)+za P J q:=λP _=>by simp[za]
  rw[e,e,e];by_cases h:j.Queue=q
  ·by_cases a:j.State=1
   ·rw[if_pos ⟨h,.inl a⟩,if_neg (λx=>by have:=x.2;omega),if_pos ⟨h,a⟩];omega
   ·by_cases b:j.State=2
    ·rw[if_pos ⟨h,.inr b⟩,if_pos ⟨h,b⟩,if_neg (λx=>a x.2)];omega
    ·rw[if_neg (λx=>x.2.elim a b),if_neg (λx=>b x.2),if_neg (λx=>a x.2)];omega
  ·rw[if_neg (λx=>h x.1),if_neg (λx=>h x.1),if_neg (λx=>h x.1)];omega
theorem Qk(v:dN s st)(q:aI s st)(r:dw):fh 1000 s st r=some (GB s r st.ae (bY s.am st.ai)):=by
 have O:=v.aR;unfold fh GB;by_cases w:r.Kind=8
 ·rw[if_pos (by simpa using w),if_pos w];rcases zL st.ae r.aK with ⟨k,hk,e⟩ | E
  ·rw[<-e,uh O q.aR.aY hk,aE,if_neg (by simp),cj hk,aE,Do q.aR.aY hk]
  ·obtain ⟨x,e,g⟩:=GH O E;rw[e,aE,if_pos (by simpa using g),Dz E];rfl
 rw[if_neg (by simpa using w),if_neg w];by_cases y:r.Kind=9
 ·rw[if_pos (by simpa using y),if_pos y];by_cases P:0<=r.Queue/\r.Queue<s.ah.length
  ·rw[if_neg (by simp;omega),if_pos P];refine ce.eq (oe st.ae.length (λi x=>x=((i:Int),[za (λx=>x=1) (st.ae.take i) r.Queue,za (λx=>x=2) (st.ae.take i) r.Queue,za fI (st.ae.take i) r.Queue])) (λi x f j g p=>?_) (λx f g=>?_) (by simp[za]) (by omega))
   ·subst g;have R:=uP (λx=>x=1) (st.ae.take i) r.Queue;have S:=uP (λx=>x=2) (st.ae.take i) r.Queue;have T:=uP fI (st.ae.take i) r.Queue;rw[uC] at R S T;have o:=zS j r.Queue (λx=>x=1);have l:=zS j r.Queue (λx=>x=2);have d:=zS j r.Queue fI;have K:∀a b c:Int,aL [a,b,c] 0=some a:=λ_ _ _=>rfl;have M:∀a b c:Int,aL [a,b,c] 1=some b:=λ_ _ _=>rfl;have N:∀a b c:Int,aL [a,b,c] 2=some c:=λ_ _ _=>rfl;simp only[cK j,if_true,cj j,Option.bind_some,bV (show i<1000000 by omega),dt];by_cases h:st.ae[i].Queue=r.Queue
    ·by_cases z:st.ae[i].State=1
     ·rw[if_pos ⟨h,z⟩] at o;rw[if_neg (λx=>by have:=x.2;omega)] at l;rw[if_neg (λx=>by have:=x.2;unfold fI at this;omega)] at d;simp only[h,z,Rj,Bool.and_self,if_true,K,Option.bind_some];refine (?_:ce _ _);rw[if_neg (by simp),if_neg (by simp)];refine p _ ?_;rw[o,l,d,wr (by omega) (by omega),CQ,CQ];rfl
     ·rw[if_neg (λx=>z x.2)] at o;rw[if_neg (show ¬((st.ae[i].Queue == r.Queue)&&(st.ae[i].State == 1))=true by simp[z])];by_cases t:st.ae[i].State=2
      ·rw[if_pos ⟨h,t⟩] at l;rw[if_neg (λx=>by have:=x.2;unfold fI at this;omega)] at d;rw[if_pos (show ((st.ae[i].Queue == r.Queue)&&(st.ae[i].State == 2))=true by simp[h,t]),M,aE,aE,if_pos (by simpa using h),if_neg (by simp[t])];refine p _ ?_;rw[o,l,d,wr (by omega) (by omega),CQ,CQ];rfl
      ·rw[if_neg (λx=>t x.2)] at l;rw[if_neg (show ¬((st.ae[i].Queue == r.Queue)&&(st.ae[i].State == 2))=true by simp[t]),if_pos (by simpa using h)];by_cases A:fI st.ae[i].State
       ·rw[if_pos ⟨h,A⟩] at d;rw[if_pos (show ((st.ae[i].State == 3) || (st.ae[i].State == 4))=true by simpa[fI] using A),N,aE,aE];refine p _ ?_;rw[o,l,d,wr (by omega) (by omega),CQ,CQ];rfl
       ·rw[if_neg (λx=>A x.2)] at d;rw[if_neg (show ¬((st.ae[i].State == 3) || (st.ae[i].State == 4))=true by simpa[fI] using A)];exact p _ (by rw[o,l,d,CQ,CQ,CQ])
    ·rw[if_neg (λx=>h x.1)] at o l d;rw[if_neg (show ¬((st.ae[i].Queue == r.Queue)&&(st.ae[i].State == 1))=true by simp[h]),if_neg (show ¬((st.ae[i].Queue == r.Queue)&&(st.ae[i].State == 2))=true by simp[h]),if_neg (show ¬(st.ae[i].Queue == r.Queue)=true by simpa using h),if_neg (by simp)];exact p _ (by rw[o,l,d,CQ,CQ,CQ])
   ·subst g;simp only[cM,a_,bn,bA,DO];show _=QN _ _;simp only[QN,Mt,RM]
  ·rw[if_pos (by simp;omega),if_neg P];rfl
 rw[if_neg (by simpa using y),if_neg y];by_cases m:r.Kind=10
 ·rw[if_pos (by simpa using m),if_pos m];have E:=v.spec.nodes;obtain ⟨b,e⟩:=SM (F:=s.am) (by omega) v.aW v.sh (yU q) q.spec.nodes.ok;rw[e,aE];have W:(bY s.am st.ai).length=s.am.length:=NF;generalize bY s.am st.ai=G at W;refine ce.eq (oe G.length (λi x=>x=((i:Int),(G.take i).flatMap λf=>[f.bP,f.Mem,f.bS,f.b_])) (λi x f j g p=>?_) (λx f g=>?_) (by simp) (by omega))
  ·subst g;have u:=Dv (G.take i);rw[uC] at u;simp only[cK j,if_true,cj j,Option.bind_some,bV (show i<1000000 by omega)];rw[dx (by rw[u];simp;omega),aE,dx (by rw[Gh,u];simp;omega),aE,dx (by rw[Gh,Gh,u];simp;omega),aE,dx (by rw[Gh,Gh,Gh,u];simp;omega),aE];refine p _ ?_;rw[OI j,yBJ];simp
  ·subst g;simp only[cM,a_,bn,bA,DO];rfl
 ·rw[if_neg (by simpa using m),if_neg m];rfl
end Go.Plain
end
section
namespace Go.Plain
open Go.Abs
abbrev Dn(s:aU)(st:bj)(u:Int)(b:dw):Option Int:=
 zdf 1000 st.aj.ah st.ae (st.ai.map λa=>(a.aK,a)) u b s.am s.aQ s.ah s.aG s.ar.pF s.ar.dh s.ar.jT s.ar.bX s.bZ s.Mode s.ae s.eJ s.aB s.bC s.dg s.In s.Out s.bW st.bF st.Next st.aO st.aC st.dl st.aj.am
abbrev Hk(s:aU)(st:bj)(F:List aJ)(u:Int)(b:dw):=
 gK 1000 st.aj.ah st.ae (st.ai.map λa=>(a.aK,a)) u b s.am s.aQ s.ah s.aG s.ar.pF s.ar.dh s.ar.jT s.ar.bX s.bZ s.Mode s.ae s.eJ s.aB s.bC s.dg s.In s.Out s.bW st.bF st.Next st.aO st.aC st.dl st.aj.am F
structure MoveIn (s:aU) (rq:dw) (j:aF):Prop where
 version:rq.ab=0∨rq.ab=j.ab
 waits:bo j.State
 queue:0<=rq.Queue/\rq.Queue<s.ah.length
 fits:Bx 1000 s rq.Queue j.aD j.au=some true
def pY(j:aF)(q:Int):aF:={ j with Queue:=q,ab:=j.ab+1 }
theorem Ve{j:aF}{q:Int}(h:bM j)(a:0<=q/\q<=7)(b:j.ab<281474976710656):bM (pY j q):=
 ⟨h.id,h.user,a,h.AT,h.cp,h.ny,h.wall,h.cw,h.after,by have:=h.version;simp only[pY];omega,h.born,h.start,h.fin,h.arr,⟨h.state.st,h.state.start,h.state.fin,h.state.ok,h.state.kill⟩⟩
def refusal(a e:Int):eC:={ Key:=a,ko:=e,aK:=0,ab:=0,cP:=[] }
theorem Vn(a e:Int):Bz 1000 a e=some (refusal a e):=rfl
end Go.Plain
end
section
namespace Go.Plain
open Go.Abs
end Go.Plain
end
section
namespace Go.Plain
open Go.Abs
variable{s:aU}{st:bj}
theorem Yz(hs:d_ s)(k:aZ s)(h:nr st){j:aF}(f:bM j)(d:dw) :
  ∃ e, zcT 1000 st.aj.ah st.ae (st.ai.map λa => (a.aK, a)) j d s.am s.aQ s.ah s.aG s.ar.pF s.ar.dh s.ar.jT s.ar.bX s.bZ s.Mode s.ae s.eJ s.aB s.bC s.dg s.In s.Out s.bW st.bF st.Next st.aO st.aC st.dl st.aj.am = some e /\
   (if decide (j.State > 2)=true then some 31 else zem 1000 s st j d.Queue)=some e/\(e=0->bo j.State/\(0<=d.Queue/\d.Queue<s.ah.length)/\Bx 1000 s d.Queue j.aD j.au=some true):=by
 have v:=f.state.st;have no:∀e:Int,e≠0->∀p:Prop,(e=0->p):=λe h p r=>absurd r h;unfold zcT zem;rw[OR hs,aE,fF,aE,Cc hs k];by_cases w:bo j.State
 rotate_left
 ·have w2:decide (j.State > 2)=true:=by unfold bo at w;simp;omega
  simp only[w,w2,decide_false,Bool.not_false,if_true];exact ⟨31,rfl,rfl,no _ (by decide) _⟩
 have w2:decide (j.State > 2)=false:=by unfold bo at w;simp;omega
 simp only[w,w2,decide_true,zM,a_,bn];by_cases l:0<=d.Queue/\d.Queue<s.ah.length
 rotate_left
 ·have g:(decide (d.Queue<0) || decide (d.Queue≥(s.ah.length:Int)))=true:=by simp;omega
  simp only[g,if_true];exact ⟨30,rfl,rfl,no _ (by decide) _⟩
 have g:(decide (d.Queue<0) || decide (d.Queue≥(s.ah.length:Int)))=false:=by simp;omega
 obtain ⟨b,i⟩:=Aw hs k d.Queue j.az;simp only[g,a_,bn,i,Option.bind_some];cases b with
 |false=>exact ⟨33,rfl,rfl,no _ (by decide) _⟩
 |true=>
  obtain ⟨c,t,u⟩:=uz hs k (q:=d.Queue) (m:=j.aD) f.cp f.ny;simp only[zM,a_,bn,t,u,Option.bind_some];cases c with
  |false=>exact ⟨37,rfl,rfl,no _ (by decide) _⟩
  |true=>
   simp only[zM,a_,bn,dt];by_cases o:d.Queue=j.Queue
   ·have c1:(d.Queue != j.Queue)=false:=by simpa using o
    simp only[c1,a_,bn];exact ⟨0,rfl,rfl,λ_=>⟨trivial,l,by first | rfl | trivial⟩⟩
   ·have c1:(d.Queue != j.Queue)=true:=by simpa using o
    obtain ⟨b,i,_⟩:=GU hs k h.aR (q:=d.Queue) (m:=1) (by omega);simp only[c1,if_true,oY h,Option.bind_some,G_ hs k h.aR,i];cases b with
    |false=>exact ⟨34,rfl,rfl,no _ (by decide) _⟩
    |true=>exact ⟨0,rfl,rfl,λ_=>⟨trivial,l,by first | rfl | trivial⟩⟩
theorem Lu(hs:d_ s)(k:aZ s)(h:nr st)(j:aF) :
  ∃ e, zb1 1000 st.aj.ah st.ae (st.ai.map λa => (a.aK, a)) j s.am s.aQ s.ah s.aG s.ar.pF s.ar.dh s.ar.jT s.ar.bX s.bZ s.Mode s.ae s.eJ s.aB s.bC s.dg s.In s.Out s.bW st.bF st.Next st.aO st.aC st.dl st.aj.am = some e /\
   (if (j.State != 3)=true then some 31 else zc3 1000 s st j)=some e/\(e=0->j.State=3):=by
 unfold zb1;by_cases d:j.State=3
 ·rw[if_neg (by simpa using d),if_neg (by simpa using d),OR hs,aE,oY h,aE];unfold zc3;rw[G_ hs k h.aR];obtain ⟨b,f,_⟩:=GU hs k h.aR (q:=j.Queue) (m:=1) (by omega);simp only[f,Option.bind_some];cases b with
  |false=>exact ⟨34,rfl,rfl,λh=>by cases h⟩
  |true=>exact ⟨0,rfl,rfl,λ_=>d⟩
 ·rw[if_pos (by simpa using d),if_pos (by simpa using d)];exact ⟨31,rfl,rfl,λh=>by cases h⟩
structure OP (s:aU) (rq:dw) (j:aF):Prop where
 id:j.Id=rq.aK
 version:j.ab<s.aB
 move:rq.Kind=7->bo j.State/\(0<=rq.Queue/\rq.Queue<s.ah.length)/\Bx 1000 s rq.Queue j.aD j.au=some true
 back:rq.Kind=6->j.State=3
theorem Wp(hs:d_ s)(k:aZ s)(g:JS st)(c:pB)(hk:c.aa.Kind=6∨c.aa.Kind=7)(G:0<=c.az/\c.az<s.aG) :
  ∃e,Dn s st c.az c.aa=some e/\zdT 1000 s st c=some e/\(e=0->∃i,∃j:i<st.ae.length,OP s c.aa st.ae[i]):=by
 have m:=g.dU.aR;have no:∀e:Int,e≠0->∀p:Prop,(e=0->p):=λe h p z=>absurd z h;unfold Dn zdf zdT;rw[OR hs,aE,if_neg (show ¬((((c.aa.Kind != 6)&&(c.aa.Kind != 7)) || (decide (c.az<0))) || (decide (c.az≥s.aG)))=true by rcases hk with h | h <;> simp[h] <;> omega)]
 rcases zL st.ae c.aa.aK with ⟨i,j,e⟩ | t
 ·have A:=bR j;have u:=g.ok _ A;have K:=u.cw;have fin:∀x:Int,(x=0->(c.aa.Kind=7->bo st.ae[i].State/\(0<=c.aa.Queue/\c.aa.Queue<s.ah.length)/\Bx 1000 s c.aa.Queue st.ae[i].aD st.ae[i].au=some true)/\(c.aa.Kind=6->st.ae[i].State=3)) ->
    ∃e,(if (x != 0)=true then some x else if decide (st.ae[i].ab≥s.aB)=true then some 41 else some 0)=some e/\(if (x != 0)=true then some x else if decide (st.ae[i].ab≥s.aB)=true then some 41 else some 0)=some e/\(e=0->∃i,∃j:i<st.ae.length,OP s c.aa st.ae[i]):=λx v=>by
   by_cases d:x=0
   ·rw[if_neg (by simpa using d)];by_cases f:st.ae[i].ab≥s.aB
    ·rw[if_pos (by simpa using f)];exact ⟨41,rfl,rfl,no _ (by decide) _⟩
    ·rw[if_neg (by simpa using f)];exact ⟨0,rfl,rfl,λ_=>⟨i,j,e,by omega,(v d).1,(v d).2⟩⟩
   ·rw[if_pos (by simpa using d)];exact ⟨x,rfl,rfl,no _ d _⟩
  rw[<-e,uh m g.aY j,aE,if_neg (show ¬decide ((i:Int)<0)=true by simp),cj j,aE,sQ m g.aY j (by omega),Bool.and_comm (c.az != 0)];simp only[Option.bind_some];rcases hk with h | h
  ·simp only[h,show ((6:Int) == 7)=false from rfl,show ((6:Int) == 6)=true from rfl,a_,bn,if_true,Option.bind_some];rw[if_neg (show ¬(((!true) || decide (c.az<0)) || decide (c.az≥s.aG))=true by simp;omega),if_neg (show ¬(!true)=true by simp)];by_cases a:((c.az != st.ae[i].az)&&(c.az != 0))=true
   ·simp only[a,if_true];exact ⟨33,rfl,rfl,no _ (by decide) _⟩
   by_cases f:((c.aa.ab != 0)&&(c.aa.ab != st.ae[i].ab))=true
   ·simp only[a,f,if_true,bn];exact ⟨32,rfl,rfl,no _ (by decide) _⟩
   simp only[a,f,bn,dt];obtain ⟨x,o,b,q⟩:=Lu hs k g.dU st.ae[i];rw[o,aE];by_cases l:(st.ae[i].State != 3)=true
   ·rw[if_pos l] at b ⊢;injection b with b
    subst b;exact ⟨31,rfl,rfl,no _ (by decide) _⟩
   ·rw[if_neg l] at b ⊢;rw[b,aE];exact fin x λd=>⟨λw=>(by rw[h] at w;cases w),λ_=>q d⟩
  ·simp only[h,show ((7:Int) == 7)=true from rfl,if_true,Option.bind_some];rw[if_neg (show ¬(((!true) || decide (c.az<0)) || decide (c.az≥s.aG))=true by simp;omega),if_neg (show ¬(!true)=true by simp)];by_cases a:((c.az != st.ae[i].az)&&(c.az != 0))=true
   ·simp only[a,if_true];exact ⟨33,rfl,rfl,no _ (by decide) _⟩
   by_cases f:((c.aa.ab != 0)&&(c.aa.ab != st.ae[i].ab))=true
   ·simp only[a,f,if_true,bn];exact ⟨32,rfl,rfl,no _ (by decide) _⟩
   simp only[a,f,bn,dt];obtain ⟨x,o,b,q⟩:=Yz hs k g.dU u c.aa;rw[o,aE];by_cases l:decide (st.ae[i].State > 2)=true
   ·rw[if_pos l] at b ⊢;injection b with b
    subst b;exact ⟨31,rfl,rfl,no _ (by decide) _⟩
   ·rw[if_neg l] at b ⊢;rw[b,aE];exact fin x λd=>⟨λ_=>q d,λy=>(by rw[h] at y;cases y)⟩
 ·obtain ⟨r,er,E⟩:=GH m t;rw[er,aE,if_pos (show decide (r<0)=true by simpa using E),Ct m g.aY t];simp only[Option.bind_some];refine ⟨30,?_,rfl,no _ (by decide) _⟩;rcases hk with h | h
  ·simp only[h,show ((6:Int) == 7)=false from rfl,show ((6:Int) == 6)=true from rfl,a_,bn,if_true,Option.bind_some];rw[if_neg (by simp;omega),if_pos (by simp)]
  ·simp only[h,show ((7:Int) == 7)=true from rfl,if_true,Option.bind_some];rw[if_neg (by simp;omega),if_pos (by simp)]
end Go.Plain
end
section
namespace Go.Plain
open Go.Abs
variable{s:aU}{st:bj}
theorem An(h:nr st)(hs:bm st.ae)(b:bL st.aj.ah){k:Nat}(hk:k<st.ae.length){j:aF}(f:j.Id=st.ae[k].Id) :
  ZN 1000 st j=some { st with ae:=st.ae.set k j,aj:={ ah:=Ia st.aj.ah st.ae[k].Queue j.Queue,am:=st.aj.am } }:=by
 by_cases a:j.Queue=st.ae[k].Queue
 ·rw[Cz h hs b hk f a,a,sn]
 have d:=h.aR;have g:=h.aW;have i:=h.cI;have l:=h.use;have m:=h.stamps;unfold ZN YY;rw[jk (by omega),jk (by omega),jk (by omega),jk (by omega),jk (by omega)];simp only[Option.bind_some];rw[f,uh d hs hk,aE,cj hk,aE,aE,xAb,zK (by simpa using d) g (by omega) (by omega) (by omega) b,aE];dsimp only;rw[if_pos (by simpa using λe=>a e.symm),zK (by simpa using d) g (by omega) (by omega) (by rw[lZ];omega) (fO b _),aE];unfold Ia;rw[if_neg a]
theorem AY{j:aF}(h:bM j):Vo 1000 j=some true:=i_ (nR j (by have:=h.cw;omega)) h
theorem SK(h:nr st)(hs:bm st.ae)(b:bL st.aj.ah){k:Nat}(hk:k<st.ae.length){j:aF}(a:j.Id=st.ae[k].Id)(d:bM j)(w1:bo st.ae[k].State)(w2:bo j.State) :
  zew 1000 st j=some ({ st with ae:=st.ae.set k j,aj:={ ah:=Ia st.aj.ah st.ae[k].Queue j.Queue,am:=st.aj.am } },0):=by
 unfold zew;rw[a,uh h.aR hs hk,aE,if_neg (by simp),AY d,aE,if_neg (by simp),An h hs b hk a];simp only[dt,cj hk,Option.bind_some,zdN];rw[if_neg (by unfold bo at w1;simp;omega),if_neg (by unfold bo at w2;simp;omega)]
theorem QE{A:List bp}(h:nN A){i:Nat}(d:i<A.length):xG A A[i].aK=A.take i++A.drop (i+1):=by
 have lt:∀(m n:Nat)(b:m<A.length)(g:n<A.length),m<n->A[m].aK<A[n].aK:=λm n b g e=>by have:=ZA.1 h m n (by simpa using b) (by simpa using g) e;simpa using this
 unfold xG;generalize e:A[i].aK=x;have j:A=A.take i++A[i]::A.drop (i+1):=by rw[<-yB3 d,List.take_append_drop]
 conv=>lhs;rw[j]
 rw[List.filter_append,yBI,if_neg (by simp[e])];congr 1
 ·rw[xAk];intro a f;obtain ⟨m,b,rfl⟩:=pD f;rw[uC] at b;rw[yBw];have:=lt m i (by omega) d (by omega);simp;omega
 ·rw[xAk];intro a f;obtain ⟨m,b,rfl⟩:=pD f;rw[xAg] at b;rw[List.getElem_drop];have:=lt i (i+1+m) d (by omega) (by omega);simp;omega
theorem lH{α:Type}{l:List α}{i:Nat}(h:i<=l.length):slice? l (i:Int) (l.length:Int)=some (l.drop i):=by unfold slice?;rw[if_pos ⟨by omega,by omega,by omega⟩];simp
theorem UH{A:List bp}(b:A.length<=300)(h:nN A){a:bp}(d:a∈A):zey 1000 A a.aK=some (xG A a.aK,0):=by
 obtain ⟨r,e,f,g⟩:=FO b a.aK;have i:0<=r:=f.2 ⟨a,d,rfl⟩;have t:=g i;have j:=t.hi;unfold zey;rw[e,aE,if_neg (by simp;omega)];have er:r=((r.toNat:Nat):Int):=by omega
 rw[er,lY (by omega),aE,jk (by rw[uC];omega),aE,bV (by omega),lH (by omega),aE,dx (by rw[uC,xAg];omega),aE];rw[<-QE h j,t.is]
theorem Qe{F:List aJ}{A:List bp}(h:nN A){a:bp}(d:a∈A):qB (bY F A) a=bY F (xG A a.aK):=by refine List.ext_getElem (by rw[iU,NF,NF]) λi b e=>?_;rw[iU,NF] at b;rw[yG (by rw[iU,NF];exact b)];refine yy λc=>?_;rw[kG,DP,ug b,ug b,mU h d];omega
theorem PS(e:dN s st)(q:aI s st){k:Nat}(hk:k<st.ae.length)(b:st.ae[k].State=3)(m:st.ae[k].ab<281474976710656) :
  zeo 1000 st st.ae[k].Id 4 false=some ({ st with ae:=st.ae.set k (bx st.ae[k] 4 st.bF false 1),ai:=xG st.ai st.ae[k].Id,aj:={ ah:=Ia st.aj.ah st.ae[k].Queue st.ae[k].Queue,am:=Cw st.aj.am } },0):=by
 have d:=Us e q;have g:=d.ok _ (bR hk);have QH:=g.version;have h:zbV 1000 3 4=some 1:=rfl;obtain ⟨a,i,l⟩:=((sA q.spec q.aR q.aW).2 _ (bR hk)).has.2 (by simp[dE,b]);have f:Z_ 1000 st.ae[k] 4 st.bF false=some (bx st.ae[k] 4 st.bF false 1):=by unfold Z_;rw[b,h,aE,wr (by omega) (by omega)];simp[dt,bx,im,b]
 unfold zeo iX;rw[uh e.aR q.aR.aY hk,aE,if_neg (by simp),if_neg (by simp),cj hk,aE,AY g,aE,if_neg (by simp),b,h,aE,if_neg (by simp),if_neg (by simp;omega),aE,if_neg (by simp),aE,f,aE,
  An d.dU d.aY d.stamps hk (j:=bx st.ae[k] 4 st.bF false 1) rfl,Option.bind_some]
 simp only[dt,cj hk,Option.bind_some,ZZ,b];rw[if_pos (by rfl),if_pos (by rfl),<-l,UH e.aW (nC q) i,aE,GF q.use.nodes,aE];rfl
structure Good (s:aU) (st:bj) (k:Int) (st':bj) (a:eC):Prop where
 sound:aI s st'
 cX:a.ko≠0∨8<=k/\k<=10->st'=st
 ee:a.cP.length<=300
 now:st'.bF=st.bF
 use:st'.dl=st.dl
theorem Good.no(q:aI s st){k:Int}{a:eC}(i:a.cP.length<=300):Good s st k st a:=⟨q,λ_=>rfl,i,rfl,rfl⟩
theorem do26(u:dN s st)(q:aI s st)(c:pB)(hk:c.aa.Kind=6∨c.aa.Kind=7)(T:0<=c.az/\c.az<s.aG) :
  ∃ st' a, eR 1000 s st c = some (st', a) /\ Good s st c.aa.Kind st' a /\ st'.Next = st.Next /\ st'.aO = st.aO /\ st'.aC = st.aC /\
   Hk s st (bY s.am st.ai) c.az c.aa=some (st'.aj.ah,st'.ae,st'.ai.map (λa=>(a.aK,a)),a,st'.aj.am,bY s.am st'.ai):=by
 have hs:=u.spec;have k:=q.spec;have f:=Us u q;have as:=ZH u q;have y:=f.dU.aR;obtain ⟨e,P,W,X⟩:=Wp hs k f c hk T;unfold Hk gK eR;change zdf 1000 _ _ _ _ _ _ _ _ _ _ _ _ _ _ _ _ _ _ _ _ _ _ _ _ _ _ _ _ _=_ at P;rw[P,W,aE,aE];by_cases o:e=0
 rotate_left
 ·rw[if_pos (by simpa using o),if_pos (by simpa using o)];exact ⟨st,_,rfl,.no q (by simp),rfl,rfl,rfl,rfl⟩
 rw[if_neg (by simpa using o),if_neg (by simpa using o)];obtain ⟨i,l,I⟩:=X o;have p:=bR l;have v:=f.ok _ p;have ha:=v.cw;have kv:=k.dr;have kq:=k.fq.hi;have iv:=I.version;have R:=v.version;have d:=q.aR.each _ p;rw[<-I.id,uh y f.aY l,aE,cj l,sQ y f.aY l (by omega)];simp only[Option.bind_some,dt];have z:IntKind.i64.wrap (st.ae[i].ab+1)=st.ae[i].ab+1:=wr (by omega) (by omega);rcases hk with h | h
 ·have x:=I.back h;have A:cz st.ae[i].State 4=some 1:=by rw[x];decide
  have E:=iJ v (what:=4) as.now false A (by omega);simp only[h,show ((6:Int) == 7)=false from rfl,show ((6:Int) == 6)=true from rfl,a_,bn,if_true,Option.bind_some];rw[PS u q l x (by omega),aE];obtain ⟨a,t,Y⟩:=((sA q.spec q.aR q.aW).2 _ p).has.2 (by simp[dE,x]);have G:aI s { st with ae:=st.ae.set i (bx st.ae[i] 4 st.bF false 1),ai:=xG st.ai st.ae[i].Id,aj:={ ah:=Ia st.aj.ah st.ae[i].Queue st.ae[i].Queue,am:=Cw st.aj.am } }:=by
   refine Lw q l (j:=bx st.ae[i] 4 st.bF false 1) ⟨rfl,⟨E,d.next,d.user,d.queue,d.born,by show (0:Int)<=st.bF;exact as.now.1,d.fin,?_⟩,λ_=>?_,rfl,λ_=>by omega⟩ (by simp[dE,bx]) (Dj f.stamps _ _) (Ax _ _ _) (NL q.use.nodes)
   ·show st.ae[i].ab+1<=s.aB+hY 1;simp only[hY];omega
   ·exact (q.waits _ p (by omega)).fits
  refine ⟨_,_,rfl,⟨G,λg=>?_,by simp,rfl,rfl⟩,rfl,rfl,rfl,?_⟩
  ·rcases g with g | g
   ·exact absurd rfl g
   ·omega
  unfold zfc;obtain ⟨r,er,Z⟩:=NY f as st.ae[i].Id 4 false;rw[er,aE,aE];rcases Z with ⟨e,ad,rfl,hc⟩ | ⟨i',K,ns,A',n,F',ei,_,m,af,fr,rfl⟩
  ·rcases hc i l rfl (by simp) with M | M
   ·rw[A] at M;cases M
   ·omega
  ·have:=f.aY.inj K l ei;subst this;rw[A] at m;injection m with m
   subst m;dsimp only;rw[if_neg (by simp),z];rcases fr with ⟨hn,_⟩ | ⟨_,en,⟨_,_,hb⟩ | ⟨b,N,eb,_,eA,ef⟩⟩
   ·exact absurd ⟨.inl x,by unfold fI;omega⟩ hn
   ·exact absurd (Na q t) (hb a t Y)
   ·subst en;subst eA;subst ef;rw[Qe (nC q) N,eb]
 ·obtain ⟨w,hq,ft⟩:=I.move h;have O:bM (pY st.ae[i] c.aa.Queue):=Ve v (by omega) (by omega);have w2:bo (pY st.ae[i] c.aa.Queue).State:=w;have nh:dE st.ae[i]=false:=jG w;simp only[h,show ((7:Int) == 7)=true from rfl,if_true,Option.bind_some];rw[z];have S:=SK f.dU f.aY f.stamps l (j:=pY st.ae[i] c.aa.Queue) rfl O w w2;unfold pY at S;rw[S,aE];have G:aI s { st with ae:=st.ae.set i (pY st.ae[i] c.aa.Queue),aj:={ ah:=Ia st.aj.ah st.ae[i].Queue c.aa.Queue,am:=st.aj.am } }:=by
   refine Fq q l (j:=pY st.ae[i] c.aa.Queue) rfl ⟨O,d.next,d.user,hq.2,d.born,d.start,d.fin,?_⟩ (λ_=>⟨ft,(q.waits _ p (by unfold bo at w;omega)).after⟩) (by show dE st.ae[i]=_;rfl) (λg=>by rw[nh] at g;cases g) (Dj f.stamps _ _) (Ax _ _ _);have:=tx st.ae[i].State;show st.ae[i].ab+1<=s.aB+hY st.ae[i].State;omega
  refine ⟨_,_,rfl,⟨G,λg=>?_,by simp,rfl,rfl⟩,rfl,rfl,rfl,?_⟩
  ·rcases g with g | g
   ·exact absurd rfl g
   ·omega
  unfold iI;rw[z];have ed:=EY y f.aY l (by omega) O (k:=i) rfl w w2 f.stamps;unfold pY at ed;rw[ed,aE,aE];dsimp only;rw[if_neg (by simp)]
end Go.Plain
end
section
namespace Go.Plain
open Go.Abs
variable{s:aU}{st:bj}
theorem Qq(l:aZ s){F:List aJ}(b:JS st)(as:AS st F){k:Nat}(hk:k<st.ae.length){j:aF}(h:Ch s st.bF st.ae[k] j)(d:j.ab=st.ae[k].ab+1) :
  gI 1000 st.aj.ah st.ae (st.ai.map λa=>(a.aK,a)) st.ae[k] j st.bF st.aj.am F=some (DV st.aj.ah st.ae[k].Queue,st.ae.set k j,st.ai.map (λa=>(a.aK,a)),0,st.aj.am,F):=by
 have m:=b.dU.aR;have g:=b.ok _ (bR hk);have v:=g.cw;have w:=g.version;have x:=l.dr;obtain ⟨o,i,u⟩:=ZO l g as.now h;have y:=o.cw;have p:j≠st.ae[k]:=λe=>by rw[e] at d;omega
 unfold gI;rw[sQ m b.aY hk (by omega),aE];dsimp only;rw[if_neg (show ¬(!true)=true by simp),i_ (Jq (by omega)) rfl,aE,if_neg (show ¬(!true)=true by simp),yj (Jq (by omega)) p,aE,if_neg (by simp),fF,aE];have r:(IntKind.i64.wrap (j.ab-1) == st.ae[k].ab)=true:=by rw[lm,wr (by omega) (by omega)];omega
 cases h with
 |same=>exact absurd rfl p
 |ed h=>rw[if_pos (by simpa using h.now),EY m b.aY hk (by omega) o i h.was h.now b.stamps,aE,u,sn]
 |kill f t=>rw[if_neg (show ¬decide (bo (bx st.ae[k] 6 st.bF false 6).State)=true by simp[bx,bo]),if_pos r,Fj b as hk (DF f) (λq=>UR f q.1) (by omega),aE]
 |stop f t=>rw[if_neg (show ¬decide (bo (bx st.ae[k] 6 st.bF false 4).State)=true by simp[bx,bo]),if_pos r,Fj b as hk (show cz st.ae[k].State 6=some 4 by rw[f];rfl) (λq=>q.2 (.inr rfl)) (by omega),aE]
 | @tB e h t=>have up:=h.up;simp only[bx] at d;omega
theorem Yo(m:dN s st)(q:aI s st)(c:pB) :
  ∃ st' a, zeT 1000 s st c = some (st', a) /\ Good s st c.aa.Kind st' a /\ st'.Next = st.Next /\ st'.aO = st.aO /\ st'.aC = st.aC /\
   zdW 1000 st.aj.ah st.ae (st.ai.map λa=>(a.aK,a)) c s.am s.aQ s.ah s.aG s.ar.pF s.ar.dh s.ar.jT s.ar.bX s.bZ s.Mode s.ae s.eJ s.aB s.bC s.dg s.In s.Out s.bW st.bF st.Next st.aO st.aC st.dl st.aj.am (bY s.am st.ai) =
    some (st'.aj.ah,st'.ae,st'.ai.map (λa=>(a.aK,a)),a,st'.aj.am,bY s.am st'.ai):=by
 have hs:=m.spec;have k:=q.spec;have b:=Us m q;have as:=ZH m q;have j:=b.dU.aR;unfold zdW zeT;rcases zL st.ae c.aa.aK with ⟨i,d,e⟩ | u
 ·have v:=bR d;have f:=b.ok _ v;have E:=f.cw;have G:=f.version;rw[<-e,uh j b.aY d,aE,if_neg (by simp),cj d,aE,Py hs k f as.now,sQ j b.aY d (by omega),aE,aE];dsimp only;rw[if_neg (show ¬(!true)=true by simp),OR hs,aE,oY b.dU,aE];change ∃st' a,_/\_/\_/\_/\_/\((sq 1000 s st.ae[i] st.bF c).bind _)=_;rw[Ue hs k f as.now,aE];by_cases g:pZ s st.ae[i] c.az c.aa=0
  ·have A:=MN g;have K:=A.version;have M:=k.dr;have o:Io s st.bF st.ae[i] c=(nW st.ae[i] st.bF c.aa,done c.aa.Key (nW st.ae[i] st.bF c.aa)):=by unfold Io;rw[if_neg (JD g)]
   rw[o];have p:(nW st.ae[i] st.bF c.aa).Id=st.ae[i].Id:=by unfold nW;split <;> rfl
   have h:(nW st.ae[i] st.bF c.aa).Queue=st.ae[i].Queue:=by unfold nW;split <;> rfl
   have t:(nW st.ae[i] st.bF c.aa).ab=st.ae[i].ab+1:=by unfold nW;split <;> rfl
   have y:bo st.ae[i].State->Bx 1000 s st.ae[i].Queue st.ae[i].aD st.ae[i].au=some true:=λw=>(q.waits _ v (by unfold bo at w;omega)).fits;have x:=YC k f as.now y (.same) A;dsimp only;rw[if_neg (show ¬((done c.aa.Key (nW st.ae[i] st.bF c.aa)).ko != 0)=true by simp[done]),if_neg (show ¬((done c.aa.Key (nW st.ae[i] st.bF c.aa)).ko != 0)=true by simp[done]),Cz b.dU b.aY b.stamps d p h,aE,
    Qq k b as d x t,Option.bind_some,h]
   refine ⟨_,_,rfl,⟨RY q d x (fO b.stamps _) (lZ _ _),λl=>?_,by simp[done],rfl,rfl⟩,rfl,rfl,rfl,?_⟩
   ·rcases l with l | l
    ·exact absurd rfl l
    ·have:=A.kind;omega
   ·dsimp only;rw[if_neg (by simp)]
  ·have o:Io s st.bF st.ae[i] c=(st.ae[i],Ng c.aa.Key (pZ s st.ae[i] c.az c.aa)):=by unfold Io;rw[if_pos g]
   rw[o];dsimp only;rw[if_pos (show ((Ng c.aa.Key (pZ s st.ae[i] c.az c.aa)).ko != 0)=true by simpa[Ng] using g),if_pos (show ((Ng c.aa.Key (pZ s st.ae[i] c.az c.aa)).ko != 0)=true by simpa[Ng] using g)];exact ⟨st,_,rfl,.no q (by simp[Ng]),rfl,rfl,rfl,rfl⟩
 ·obtain ⟨r,er,z⟩:=GH j u;rw[er,aE,if_pos (by simpa using z),Ct j b.aY u,aE];dsimp only;rw[if_pos (by simp),Vn,aE];exact ⟨st,_,rfl,.no q (by simp),rfl,rfl,rfl,rfl⟩
end Go.Plain
end
section
namespace Go.Plain
open Go.Abs
theorem XG{l:List aF}{j:aF}(d:l.length<=299)(hs:bm l)(a:∀x∈l,x.Id<j.Id){m:Int}(e:(l.length:Int)<m)(b:bM j):za6 1000 l j m=some (l++[j],0):=by
 have f:=b.cw;unfold za6;rw[zfa b,aE,if_neg (by simp),JA (by omega) hs a,aE];rw[if_neg (by simp),if_neg (by simp;omega),xV (by omega),aE];unfold zaW;have sl:slice? l (l.length:Int) (l.length:Int)=some []:=by unfold slice?;rw[if_pos ⟨by omega,by omega,by omega⟩];simp
 rw[sl,aE,if_neg (by simp),if_pos (by simp),dx (by simp;omega),aE,aE]
theorem Qv{l:List aF}{j:aF}{Q:List Int}{ids next m:Int}(d:l.length<=299)(hs:bm l)(a:∀x∈l,x.Id<j.Id)(e:(l.length:Int)<m)(b:bM j)(f:j.State=1)(g:j.Id=next)(h:j.ab=1)(k:next<=ids)(i:bL Q) :
  zcV 1000 Q l j ids next m=some (l++[j],DV Q j.Queue,0,next+1):=by
 have o:=b.id;unfold zcV;rw[zfa b,aE,if_neg (by simp[f,g,h]),if_neg (by simp;omega),XG d hs a e b,aE];dsimp only;rw[if_neg (by simp),BZ i,aE,wr (by omega) (by omega)]
end Go.Plain
end
section
namespace Go.Plain
open Go.Abs
structure SubIn (s:aU) (st:bj) (rq:dw):Prop where
 Ov:1<=rq.aS/\rq.aS<=16
 room:(st.ae.length:Int)+rq.aS<=s.ae
 ids:st.Next+rq.aS-1<=s.eJ
abbrev Ji(s:aU)(st:bj)(u:Int)(b:dw):Option Int:=
 zcR 1000 st.aj.ah st.ae (st.ai.map λa=>(a.aK,a)) u b s.am s.aQ s.ah s.aG s.ar.pF s.ar.dh s.ar.jT s.ar.bX s.bZ s.Mode s.ae s.eJ s.aB s.bC s.dg s.In s.Out s.bW st.bF st.Next st.aO st.aC st.dl st.aj.am
abbrev Uv(s:aU)(st:bj)(u:Int)(b:dw):=
 e_ 1000 st.aj.ah st.ae (st.ai.map λa=>(a.aK,a)) u b s.am s.aQ s.ah s.aG s.ar.pF s.ar.dh s.ar.jT s.ar.bX s.bZ s.Mode s.ae s.eJ s.aB s.bC s.dg s.In s.Out s.bW st.bF st.Next st.aO st.aC st.dl st.aj.am s.ae
structure NewJ (st:bj) (u:Int) (rq:dw) (m:Nat) (j:aF):Prop where
 ok:bM j
 id:j.Id=st.Next+m
 state:j.State=1
 user:j.az=u
 cp:j.au=rq.au
 version:j.ab=1
def Kd(st:bj)(u:Int)(b:dw)(m:Nat)(a:Int):aF:={ Id:=st.Next+m,az:=u,Queue:=b.Queue,aD:=b.aD,au:=b.au,aN:=b.aN,ay:=b.ay,State:=1,Ok:=false,bG:=false,ab:=1,bI:=st.bF,Start:=0,End:=0,Array:=a }
theorem Hi{st:bj}{u:Int}{b:dw}{m:Nat}{a:Int}(h:bM (Kd st u b m 0))(d:0<=a/\a<=st.Next+m):bM (Kd st u b m a):=
 ⟨h.id,h.user,h.queue,h.AT,h.cp,h.ny,h.wall,h.cw,h.after,h.version,h.born,h.start,h.fin,d,⟨h.state.st,h.state.start,h.state.fin,h.state.ok,h.state.kill⟩⟩
end Go.Plain
end
section
namespace Go.Plain
open Go.Abs
variable{s:aU}{st:bj}
def qn(l:List aF)(d:xH):Prop:=∃j∈l,j.Id=d.aK
open Classical in
theorem PK{l:List aF}(y:l.length<=300){a:List xH}(z:a.length<=20):zch 1000 l a=some (if ∀d∈a,qn l d then 0 else 40):=by
 unfold zch;refine ce.eq (uK a (λ_ d=>qn l d) (λi f p _ u=>?_) (λf h=>?_) (by omega))
 ·simp only[cK p,if_true,cj p,Option.bind_some];refine oe l.length (λk x=>x.2=(k:Int)/\(x.1=true↔∃j∈l.take k,j.Id=a[i].aK)) (λk x g hk r t=>?_) (λx g r=>?_) ⟨rfl,by simp⟩ (by omega)
  ·obtain ⟨v,w⟩:=x;obtain ⟨o,m⟩:=r;dsimp only at m o;subst o;simp only[cK hk,if_true,cj hk,Option.bind_some];refine t _ ⟨bV (by omega),?_⟩;dsimp only;rw[dW,m,lm,OI hk];constructor
   ·rintro (⟨j,b,e⟩ | e)
    ·exact ⟨j,Zk _ b,e⟩
    ·exact ⟨l[k],yB7 _ (by simp),e⟩
   ·rintro ⟨j,b,e⟩;rcases zC.1 b with b | b
    ·exact .inl ⟨j,b,e⟩
    ·rw[Kz] at b;subst b;exact .inr e
  ·obtain ⟨v,w⟩:=x;obtain ⟨o,m⟩:=r;dsimp only at m o;subst o;rw[DO] at m;simp only[cM,a_,bn];rw[bD];refine ⟨λh=>?_,λh=>?_⟩
   ·rw[bA,if_neg];intro q;have:=m.2 (q _ (bR p));simp[this] at h
   ·rw[bV (show i<1000000 by omega)];exact u (m.1 (by simpa using h))
 ·simp only[cM,a_,bn,bA];rw[if_pos (AQ (A:=qn l) h)]
theorem Fy{l:List aF}(k:l.length<=300){a:List xH}(y:a.length<=20){o:Option Int}{r:Int}(m:(∀d∈a,qn l d)->o=some r)(p:(¬∀d∈a,qn l d)->r=40) :
  ca (λt (b:Int)=>
   if (decide (b<(a.length:Int)))=true then
    (aL a b).bind λu=>
    (Fv 1000 l u.aK).bind λv=>
    if (decide (v<0))=true then
     some 40
    else
     t (IntKind.i64.wrap (b+1))
   else
    o) 1000 0=some r:=by
 refine ce.eq (uK a (λ_ d=>qn l d) (λi f g _ w=>?_) (λf h=>?_) (by omega))
 ·simp only[cK g,if_true,cj g,Option.bind_some,bV (show i<1000000 by omega)];obtain ⟨x,e,j,_,_⟩:=oB k a[i].aK;rw[e,aE,bD];refine ⟨λh=>?_,λh=>w (j.1 (by simpa using h))⟩;rw[bA];refine (p λq=>?_).symm;have:=j.2 (q _ (bR g));simp at h;omega
 ·simp only[cM,a_,bn];rw[m (AQ (A:=qn l) h)];exact ⟨r,rfl,rfl⟩
structure Cl (s:aU) (st:bj) (u:Int) (rq:dw):Prop where
 user:0<=u/\u<s.aG
 queue:0<=rq.Queue/\rq.Queue<s.ah.length
 dem:OC rq
 Ov:1<=rq.aS/\rq.aS<=16
 few:rq.ay.length<=4
 after:∀d∈rq.ay,qn st.ae d
 fits:Bx 1000 s rq.Queue rq.aD rq.au=some true
 room:(st.ae.length:Int)+rq.aS<=s.ae
 ids:st.Next+rq.aS<=s.eJ+1
theorem KJ{x:Int}{g:Option Int}:((some x).bind λe=>if (e != 0)=true then some e else g)=if x=0 then g else some x:=by
 rw[aE];by_cases h:x=0
 ·rw[if_neg (by simpa using h),if_pos h]
 ·rw[if_pos (by simpa using h),if_neg h]
theorem Xb (hs:d_ s) (k:aZ s) (h:nr st) (W:1≤st.Next∧st.Next≤s.eJ+1) (c:pB) (l:c.aa.ay.length≤20) :
    ∃e,Ji s st c.az c.aa=some e∧zdU 1000 s st c=some e∧(e=0→Cl s st c.az c.aa):=by
  have g:=h.aR
  have X:=k.ids
  have Y:=k.aR
  have no:∀e:Int,e≠0→(e=0→Cl s st c.az c.aa):=fun e E G=>absurd G E
  unfold Ji zcR zdU
  rw [OR hs,Option.bind_some,oY h,Option.bind_some]
  unfold zdc
  by_cases c1:c.aa.Kind=1∧0≤c.az∧c.az<s.aG
  rotate_left
  · rw [if_pos (by simp; omega),if_pos (by simp; omega),KJ,if_neg (by decide)]
    exact ⟨2,rfl,rfl,no _ (by decide)⟩
  rw [if_neg (by simp; omega),if_neg (by simp; omega),KJ,if_pos rfl]
  have K:zdx 1000 s.am s.aQ s.ah s.aG s.ar.pF s.ar.dh s.ar.jT s.ar.bX s.bZ s.Mode s.ae s.eJ s.aB s.bC s.dg s.In s.Out s.bW c.az c.aa.Queue =
    (if ((decide (c.aa.Queue<0)) || (decide (c.aa.Queue≥(s.ah.length:Int))))=true then some 30 else (ZK 1000 s c.aa.Queue c.az).bind fun a=>if (!a)=true then some 33 else some 0):=rfl
  rw [K]
  by_cases M:0≤c.aa.Queue∧c.aa.Queue<s.ah.length
  rotate_left
  · rw [if_pos (by simp; omega),if_pos (by simp; omega),KJ,if_neg (by decide)]
    exact ⟨30,rfl,rfl,no _ (by decide)⟩
  rw [if_neg (by simp; omega),if_neg (by simp; omega),Cc hs k]
  obtain ⟨b,o⟩:=Aw hs k c.aa.Queue c.az
  rw [o,Option.bind_some,Option.bind_some]
  cases b with
  | false =>
    rw [if_pos (by simp),if_pos (by simp),KJ,if_neg (by decide)]
    exact ⟨33,rfl,rfl,no _ (by decide)⟩
  | true=>
  rw [if_neg (by simp),if_neg (by simp),KJ,if_pos rfl]
  have hd:zed 1000 c.aa.Kind c.aa.Key c.aa.aK c.aa.ab c.aa.Queue c.aa.aD c.aa.au.bP c.aa.au.Mem c.aa.au.bS c.aa.au.b_ c.aa.aN c.aa.aS c.aa.ay c.aa.Node c.aa.bE c.aa.To c.aa.Id=some (wF c.aa):=by
    show (zer 1000 c.aa).bind (fun a=>some a)=_
    rw [FL,Option.bind_some]
  rw [hd,KJ,Cq,KJ]
  by_cases f:wF c.aa=0
  rotate_left
  · rw [if_neg f,if_neg f]
    exact ⟨_,rfl,rfl,no _ f⟩
  rw [if_pos f,if_pos f]
  have D:=HO f
  unfold zdG
  by_cases u:(1≤c.aa.aS∧c.aa.aS≤16)∧c.aa.ay.length≤4
  rotate_left
  · rw [if_pos (by simp; omega),if_pos (by simp; omega),KJ,if_neg (by decide)]
    exact ⟨2,rfl,rfl,no _ (by decide)⟩
  rw [if_neg (by simp; omega),if_neg (by simp; omega),KJ,if_pos rfl,PK g l,KJ]
  by_cases i:∀d∈c.aa.ay,qn st.ae d
  rotate_left
  · rw [if_neg i,if_neg (by decide),Fy g l (fun q=>absurd q i) (fun _=>rfl)]
    exact ⟨40,rfl,rfl,no _ (by decide)⟩
  rw [if_pos i,if_pos rfl]
  have N:zdE 1000 s.am s.aQ s.ah s.aG s.ar.pF s.ar.dh s.ar.jT s.ar.bX s.bZ s.Mode s.ae s.eJ s.aB s.bC s.dg s.In s.Out s.bW st.ae c.aa.Queue c.aa.aD c.aa.au.bP c.aa.au.Mem c.aa.au.bS c.aa.au.b_ c.aa.aS =
    ((Bx 1000 s c.aa.Queue c.aa.aD c.aa.au).bind fun a=>if (!a)=true then some 37 else (Vl 1000 s st.ae c.aa.Queue c.aa.aS).bind fun p=>if (!p)=true then some 34 else some 0):=rfl
  rw [N]
  suffices H:∃e,(((Bx 1000 s c.aa.Queue c.aa.aD c.aa.au).bind fun a=>if (!a)=true then some 37 else (Vl 1000 s st.ae c.aa.Queue c.aa.aS).bind fun p=>if (!p)=true then some 34 else some 0).bind fun v=>
      if (v != 0)=true then some v else (zbN 1000 s.ae s.eJ st.Next st.ae c.aa.aS).bind fun w=>if (w != 0)=true then some w else some 0)=some e ∧
      ((XL 1000 s c.aa.Queue c.aa.aD c.aa.au).bind fun O=>if (!O)=true then some 37 else (zbU 1000 s st.ae c.aa.Queue c.aa.aS).bind fun P=>if (!P)=true then some 34 else
        if (decide ((IntKind.i64.wrap ((st.ae.length:Int)+c.aa.aS)) > s.ae))=true then some 35 else if (decide ((IntKind.i64.wrap (st.Next+c.aa.aS)) > (IntKind.i64.wrap (s.eJ+1))))=true then some 36 else some 0)=some e∧(e=0→Cl s st c.az c.aa) by
    obtain ⟨e,p1,R,S⟩:=H
    exact ⟨e,p1,Fy g l (fun _=>R) (fun q=>absurd i q),S⟩
  obtain ⟨b,y,T⟩:=uz hs k (q:=c.aa.Queue) (m:=c.aa.aD) D.cp D.ny
  rw [y,T,Option.bind_some,Option.bind_some]
  cases b with
  | false =>
    rw [if_pos (by simp),if_pos (by simp),KJ,if_neg (by decide)]
    exact ⟨37,rfl,rfl,no _ (by decide)⟩
  | true=>
  rw [if_neg (by simp),if_neg (by simp),G_ hs k g]
  obtain ⟨b,o,_⟩:=GU hs k g (q:=c.aa.Queue) (m:=c.aa.aS) (by omega)
  rw [o,Option.bind_some,Option.bind_some]
  cases b with
  | false =>
    rw [if_pos (by simp),if_pos (by simp),KJ,if_neg (by decide)]
    exact ⟨34,rfl,rfl,no _ (by decide)⟩
  | true=>
  rw [if_neg (by simp),if_neg (by simp),KJ,if_pos rfl]
  unfold zbN
  rw [wr (x:=(st.ae.length:Int)+c.aa.aS) (by omega) (by omega),wr (x:=st.Next+c.aa.aS) (by omega) (by omega),wr (x:=st.Next+c.aa.aS-1) (by omega) (by omega),wr (x:=s.eJ+1) (by omega) (by omega)]
  by_cases z:(st.ae.length:Int)+c.aa.aS > s.ae
  · have j:decide ((st.ae.length:Int)+c.aa.aS > s.ae)=true:=by simpa using z
    simp only [j,if_true]
    rw [KJ,if_neg (by decide)]
    exact ⟨35,rfl,rfl,no _ (by decide)⟩
  have j:decide ((st.ae.length:Int)+c.aa.aS > s.ae)=false:=by simpa using z
  by_cases A:st.Next+c.aa.aS > s.eJ+1
  · have r:decide (st.Next+c.aa.aS-1 > s.eJ)=true:=by rw [bb]; omega
    have t:decide (st.Next+c.aa.aS > s.eJ+1)=true:=by simpa using A
    simp only [j,r,t,a_,if_true,bn]
    rw [KJ,if_neg (by decide)]
    exact ⟨36,rfl,rfl,no _ (by decide)⟩
  have r:decide (st.Next+c.aa.aS-1 > s.eJ)=false:=by rw [Ux]; omega
  have t:decide (st.Next+c.aa.aS > s.eJ+1)=false:=by simpa using A
  simp only [j,r,t,a_,bn]
  rw [KJ,if_pos rfl]
  exact ⟨0,rfl,rfl,fun _=>⟨c1.2,M,D,u.1,u.2,i,y,by omega,by omega⟩⟩
end Go.Plain
end
