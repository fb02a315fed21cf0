/- TyRP, TySN, TySD, TyV1, TyS2, TyV2, TyV3, TyW1, TyV4, TyV5, TyW2, TyW3, TyW4, TyW5 -/
import Derived.Test.YtcndmfkgdaipaaaGreatLawC
import Derived.Test.YtcndmfkgdaipaaaGreatLawB
import Derived.KernelRfl
set_option linter.all false
open Go.IntKind (i64 u64)
section
namespace Go.Plain
open Go.Abs
theorem II{s:bo}(hs:mJ s)(k:bp s):QU 5000 s=some true:=by
 obtain ⟨r,e,h⟩:=rA s hs
 simp_all
theorem Hi(x a b:Int):∃v,zcn 5000 x a b=some v:=by
 unfold zcn;split
 ·simp_all
 ·split <;> exact ⟨_,rfl⟩
theorem LS(x:Int):∃v,iC 5000 x=some v:=by
 obtain ⟨r,e⟩:=Hi x 0 1099511627776;unfold iC Oq
 simp_all
theorem UO{s:bo}(hs:mJ s)(k:bp s)(j:aL)(d:Int)(use:List Int):∃v,DI 5000 s j d use=some v:=by
 have g:∃v,zV 5000 d j.dF=some v:=by unfold zV;split <;> exact ⟨_,rfl⟩
 obtain ⟨ag,p⟩:=g;obtain ⟨i,r⟩:=Hi j.aK 0 64;unfold DI yD;rw[II hs k,aD,if_neg (by simp)];simp only[gB,p,r,Option.bind_some];have m:∀q:Int,∃v:Int×Int×Int×Int,(if ((decide (j.c_≥0))&&(decide (j.c_<(use.length:Int))))=true then
    (aB use j.c_).bind λt=>(iC 5000 t).bind λu=>some ((i64.wrap (s.ah.jb * ag)),(i64.wrap (s.ah.cH * i)),(i64.wrap (s.ah.eR * q)),(i64.wrap (s.ah.bB * u)))
   else some ((i64.wrap (s.ah.jb * ag)),(i64.wrap (s.ah.cH * i)),(i64.wrap (s.ah.eR * q)),(i64.wrap (s.ah.bB * 0))))=some v:=λq=>by
  by_cases o:((decide (j.c_≥0))&&(decide (j.c_<(use.length:Int))))=true
  ·have a:=o;simp only[bN,bA] at a;obtain ⟨h,e⟩:=Gm (l:=use) a.1 a.2;obtain ⟨f,y⟩:=LS (use[j.c_.toNat]'h)
   simp_all
  ·rw[if_neg o];simp_all
 by_cases hq:((decide (j.Queue≥0))&&(decide (j.Queue<(s.aq.length:Int))))=true
 ·have hq':=hq;simp only[bN,bA] at hq';obtain ⟨h,e⟩:=Gm (l:=s.aq) hq'.1 hq'.2;rw[if_pos hq,e,aD];obtain ⟨v,ev⟩:=m (s.aq[j.Queue.toNat]'h).eR
  simp_all
 ·rw[if_neg hq];obtain ⟨v,ev⟩:=m 0
  simp_all
def Vf(s:bo)(n:kc)(j:aL):K3:=(qF 5000 s j n).getD (0,0,0)
theorem keyP_ok{s:bo}(hs:mJ s)(k:bp s)(n:kc)(j:aL):qF 5000 s j n=some (Vf s n j):=by
 have:∃v,qF 5000 s j n=some v:=by
  obtain ⟨v,e⟩:=UO hs k j n.aT n.oF;unfold qF
  simp_all
 grind [Vf]
theorem Ub{s:bo}(hs:mJ s)(k:bp s)(n:kc){L:List aL}(hL:∀j∈L,gy j)(hl:L.length<40) :
  bQ (zeU 5000 L s n) λr=>r.Perm L:=by
 unfold zeU;rw[II hs k,aD,if_neg (by simp),Sk (by omega),aD];refine iS L.length (λi x=>x=((i:Int),(L.map (Vf s n)).take i++List.replicate (L.length-i) (0,0,0))) (λi x f d a g=>?_) (λx f a=>?_) (by simp) (by omega)
 ·subst a;have hl:((L.map (Vf s n)).take i).length=i:=by grind
  have e:List.replicate (L.length-i) ((0,0,0):K3)=(0,0,0)::List.replicate (L.length-(i+1)) (0,0,0):=by rw[show L.length-i=(L.length-(i+1))+1 by omega,List.replicate_succ]
  simp only;rw[if_pos (cS d),bZ d,aD,keyP_ok hs k,aD,e,dW (by rw[hl]),aD,jL (by rw[hl]),bU (by omega)]
  grind [List.take_add_one]
 ·subst a;rw[yBD (by simp),yCl,List.replicate_zero,DA];simp only;have z:∀x:aL,Cs x 0 (L.length:Int)=some []:=λx=>by
   unfold Cs
   grind
  rw[if_neg (by simp),z,aD];refine (Ql (N:=5000) (p:=L.map (Vf s n)) (by simp_all) (by omega)).bind λr g=>?_;obtain ⟨hp,hw⟩:=g;rw[wj] at hp;have m:r.length=L.length:=by rw[hp.length_eq,sn]
  have o:∀x∈r,0<=x/\x<L.length:=λx a=>by
   have:=SN (p:=L.map (Vf s n)) (x:=x) (by grind)
   grind [Rw]
  let J:Int->aL:=λx=>L.getD x.toNat { Id:=0,c_:=0,Queue:=0,aK:=0,az:=({ bP:=0,Mem:=0,bS:=0,bT:=0 }:aC),aU:=0,aI:=[],State:=0,Ok:=false,dD:=false,aQ:=0,dF:=0,Start:=0,End:=0,Array:=0 }
  have t:∀x∈r,aB L x=some (J x):=λx a=>by grind [Gm]
  refine iS r.length (λi x=>x=((i:Int),(r.map J).take i)) (λi x f d a g=>?_) (λx f a=>?_) (by simp) (by omega)
  ·subst a;have u:gy (J r[i]):=by
    grind [Gm]
   simp only;rw[if_pos (cS d),bZ d,aD,t _ (bG d),aD];have v:zaB 5000 (J r[i]).aI=some (J r[i]).aI:=FW (by grind [gy.ny]);rw[v,aD,zq (by grind),aD,bU (by omega)];refine g _ (by rw[List.take_add_one,eS (by grind)];simp)
  ·subst a;simp only;rw[if_neg (by simp),a_,yBD (by simp)];have h:(VH L.length).map J=L:=by
    apply yBZ
    ·simp[VH]
    grind [VH]
   grind
section
variable{l:List aL}(hl:l.length<=300)(hs:cf l)
def DepP(l:List aL)(d:dZ):Prop:=∃j∈l,j.Id=d.bj/\(j.State=5∨j.State=6)/\(d.Ok=true->j.State=5/\j.Ok=true)
include hl in
theorem find_d(id:Int):bQ (wH 5000 id l) λr=>(r.2=false/\∀j∈l,j.Id≠id)∨∃(i:Nat)(h:i<l.length),l[i].Id=id/\r=(l[i],true):=by
 unfold wH;refine wV l (λ_ j=>j.Id≠id) (λi f h _ a=>?_) (λf h=>?_) (by omega)
 ·simp only[cS h,if_true,bZ h,Option.bind_some,bU (show i<1000000 by omega),bz,a_,nB]
  grind
 ·simp only[fe,b_,cw,a_];exact .inl ⟨trivial,DF (A:=λ(j:aL)=>j.Id≠id) h⟩
include hl hs in
theorem XW{d:dZ}{i:Nat}(a:i<l.length)(e:l[i].Id=d.bj):DepP l d↔(l[i].State=5∨l[i].State=6)/\(d.Ok=true->l[i].State=5/\l[i].Ok=true):=by
 constructor
 ·rintro ⟨j,hj,h1,h2,h3⟩;obtain ⟨t,f,rfl⟩:=iX hj;have:=hs.inj f a (h1.trans e.symm)
  simp_all
 ·rintro ⟨h2,h3⟩;exact ⟨l[i],bG a,e,h2,h3⟩
include hl hs in
theorem met_ok{j:aL}(u:j.aI.length<=10):f_ (qu 5000 j l) (∀d∈j.aI,DepP l d):=by
 unfold qu;refine Pm j.aI (DepP l) _ (λh=>h) (λi f g Q h1 m=>?_) (λf h=>?_) (by omega)
 ·rw[if_pos (cS g),bZ g,aD];refine (find_d hl _).bind λr a=>?_;rw[gB];rcases a with ⟨a,hn⟩ | ⟨t,o,e,rfl⟩
  ·rw[if_pos (by simp[a])];show bQ (if true=true then _ else _) _;rw[if_pos rfl,a_];exact m λ⟨j,hj,e,_⟩=>hn j hj e
  ·have p:=XW hl hs o e;unfold FB VU;simp only[Option.bind_some];rw[if_neg (by simp),bU (show i<1000000 by omega)]
   grind [a_]
 ·simp only[fe,b_,cw];exact sR h
def EW(l:List aL)(j:aL):Bool:=(j.State == 1)&&(qu 5000 j l).getD false
theorem ZT{T:Type}(st:T->Int)(met:T->Option Bool):∀l:List T,(∀a∈l,∃b,met a=some b)->Ei st met l=some (l.filter λa=>(st a == 1)&&(met a).getD false)
 |[],_=>rfl
 |a :: l, h => by
  have ih:=ZT st met l λx d=>h x (lI _ d);obtain ⟨b,e⟩:=h a (ql ..);unfold Ei
  grind
include hl hs in
theorem SF(d:∀j∈l,j.aI.length<=10):fF 5000 l=some (l.filter (EW l)):=by unfold fF WF;rw[show Nat.ble l.length 1000000=true from Nat.ble_eq▸(by omega)];exact ZT _ _ l λa h=>by obtain ⟨b,e,_⟩:=met_ok hl hs (d a h);simp_all
end
theorem SA{R:Type}{K:List aL->Option R}:∀(r d:List aL),d.length+r.length<=1000 ->
  lpR (λ(e:aL) (f:List aL) g=>
  (cA f ([e]:List aL)).bind λi=>
  g i) K r d=K (d++r)
 |[],d,_=>by simp[lpR]
 |a :: r, d, h => by simp only[List.length_cons] at h;unfold lpR;rw[zq (by grind),aD,SA r _ (by grind)];simp
theorem NT{R:Type}{b:(Int×Int->Option R)->Int×Int->Option R}{Q:R->Prop}{l:List aL}(hl:l.length<=300)(P:aL->Bool)
  (hs:∀f (c i:Nat) (h:i<l.length),c<=i->bQ (f (((if P l[i] then c+1 else c:Nat):Int),((i+1:Nat):Int))) Q->bQ (b f ((c:Int),(i:Int))) Q)
  (g:∀f,bQ (b f ((l.countP P:Int),(l.length:Int))) Q):bQ (bC b 5000 (0,0)) Q:=by
 refine iS l.length (λi x=>x=(((l.take i).countP P:Int),(i:Int))) (λi x f d a e=>?_) (λx f a=>?_) (by simp) (by omega)
 ·subst a;refine hs f _ i d (lK List.countP_le_length (by grind)) (e _ ?_)
  grind [List.take_add_one]
 simp_all
def hasB(x:Int):Bool:=(x == 3) || (x == 4)
theorem UQ{l:List aL}(hl:l.length<=300)(q:Int):mh 5000 l q=some (l.countP λj=>(j.Queue == q)&&hasB j.State:Int):=by
 unfold mh;apply bQ.eq;rw[kC];refine NT hl (λj=>(j.Queue == q)&&hasB j.State) (λf c i a e d=>?_) (λf=>?_)
 ·simp only[gB];rw[if_pos (cS a),bZ a,aD,bU (show i<1000000 by omega),bU (show c<1000000 by omega)];unfold eL;by_cases h:(l[i].Queue == q)=true
  ·rw[if_pos h,aD,aD];simp only[h,yCn] at d;show bQ (if hasB l[i].State=true then _ else _) _
   grind
  simp_all
 ·simp only;rw[if_neg (by simp),a_,a_]
theorem of_eq{l:List aL}(hl:l.length<=300)(q u:Int):Ax 5000 l q u=some (l.countP λj=>((j.Queue == q)&&(j.c_ == u))&&hasB j.State:Int):=by
 unfold Ax;apply bQ.eq;rw[kC];refine NT hl (λj=>((j.Queue == q)&&(j.c_ == u))&&hasB j.State) (λf c i a e d=>?_) (λf=>?_)
 ·simp only[gB];rw[if_pos (cS a),bZ a,aD,bU (show i<1000000 by omega),bU (show c<1000000 by omega)];unfold eL;by_cases h:((l[i].Queue == q)&&(l[i].c_ == u))=true
  ·rw[if_pos h,aD,aD];simp only[h,yCn] at d;show bQ (if hasB l[i].State=true then _ else _) _
   grind
  grind
 ·simp only;rw[if_neg (by simp),a_,a_]
theorem F_{s:bo}(hs:mJ s)(k:bp s){l:List aL}(hl:l.length<=300)(j:aL):∃b,mw 5000 s l j=some b:=by
 unfold mw vr;by_cases hq:0<=j.Queue/\j.Queue<s.aq.length
 ·obtain ⟨a,e⟩:=Gm (l:=s.aq) hq.1 hq.2;rw[if_pos (by simp_all),II hs k,aD,aD,if_neg (by simp),e,aD,UQ hl,aD,of_eq hl,aD];split <;> exact ⟨_,rfl⟩
 ·rw[if_neg (by simp_all),aD,if_pos (by simp)]
  simp_all
end Go.Plain
end
section
namespace Go.Plain
open Go.Abs
theorem eV{F:List aC}{A:List ce}:(dx F A).length=F.length:=by
 induction A generalizing F with
 |nil=>rfl
 |cons a A ih=>have:=ih (F:=lc F a);rw[zeL] at this;exact this
theorem qy{A:List ce}:∀{F:List aC}{i:Nat}(h:i<F.length)(d:i<(dx F A).length)(c:Nat),cmp c (dx F A)[i]=cmp c F[i]-cT A i c:=by
 induction A with
 |nil=>grind [dx,cT]
 |cons a A ih=>
  intro F i h d c;have hl:i<(lc F a).length:=by grind [zeL]
  have:=ih (F:=lc F a) hl (by grind [eV]) c;rw[nO,q_,Aq,Bf] at this;rw[zdE];have e:(dx F (a::A))[i]=(dx (lc F a) A)[i]'(by grind):=rfl
  grind
def others(A:List ce)(id:Int):List ce:=A.filter λb=>decide (b.bj≠id)
def Ah(x what:Int):Option Int:=
 if what=1/\x=1 then some 2 else if what=2/\x=2 then some 1 else if what=3/\x=1 then some 3 else if what=4/\x=3 then some 1 else if what=5/\x=3 then some 4 else if what=6/\x=3 then some 4
 else if what=6/\Ee x then some 6 else if what=7/\(x=3∨x=4) then some 5 else if what=8/\x=4 then some 6 else none
theorem VB(x what:Int):v_ 5000 x what=some ((Ah x what).getD 0,(Ah x what).isSome):=by
 unfold v_ Ah;simp only[gB,Qh,eL,Option.bind_some,bN,nB];by_cases h1:what=1/\x=1
 ·simp_all
 rw[if_neg h1,if_neg h1];by_cases a:what=2/\x=2
 ·simp_all
 rw[if_neg a,if_neg a];by_cases d:what=3/\x=1
 ·simp_all
 rw[if_neg d,if_neg d]
 grind
def HasS(x:Int):Prop:=x=3∨x=4
instance (x:Int):Decidable (HasS x):=by unfold HasS;infer_instance
def nH(x:Int):Prop:=x=5∨x=6
instance (x:Int):Decidable (nH x):=by unfold nH;infer_instance
theorem U_(x:Int):VU 5000 x=some (decide (nH x)):=by unfold VU;congr 1;rw[Bool.eq_iff_iff];rw[bA];simp only[gF,nB,nH]
def iE (j:aL) (what a:Int) (ok:Bool) (ns:Int):aL:=
  { j with
    State:=ns
    aQ:=j.aQ+1
    Ok:=if what=5 then ok else if what=6∨what=8∨what=7∧j.State=3 then false else j.Ok
    dD:=if what=6 then true else if what=7 then false else j.dD
    Start:=if what=3 then a else if what=4 then 0 else j.Start
    End:=if nH ns then a else j.End }
theorem QB{j:aL}(h:gy j){what i:Int}(hn:0<=i/\i<=1099511627776)(ok:Bool){ns:Int}(hs:Ah j.State what=some ns)(A:j.aQ<281474976710656):gy (iE j what i ok ns):=by
 have p:=h.version;have r:=h.start;have t:=h.fin;have u:=h.state.start;have v:=h.state.fin;have y:=h.state.ok;have z:=h.state.kill;have g:(what=1/\j.State=1/\ns=2)∨(what=2/\j.State=2/\ns=1)∨(what=3/\j.State=1/\ns=3)∨(what=4/\j.State=3/\ns=1)∨(what=5/\j.State=3/\ns=4)∨(what=6/\j.State=3/\ns=4)∨(what=6/\Ee j.State/\ns=6)∨(what=7/\(j.State=3∨j.State=4)/\ns=5)∨(what=8/\j.State=4/\ns=6):=by
  unfold Ah at hs;split at hs
  ·simp_all
  split at hs
  ·simp_all
  split at hs
  ·simp_all
  split at hs
  ·simp_all
  split at hs
  ·simp_all
  split at hs
  ·simp_all
  grind
 have f:j.State<4->j.Ok=false:=λm=>by grind
 have d:j.State<4->j.dD=false:=λm=>by grind
 have o:Ee j.State->j.State<3:=λhw=>by rcases hw with e | e <;> omega
 refine ⟨h.id,h.user,h.queue,h.many,h.need,h.nU,h.wall,h.ny,h.after,by grind [iE],h.born,?_,?_,h.arr,?_⟩
 ·simp only[iE];omega
 ·simp only[iE];omega
 ·have st0:j.State<3->j.Start=0:=λm=>yBX λq=>by omega
  have a:j.State<5->j.End=0:=λm=>yBX λq=>by omega
  rcases g with ⟨rfl,e,rfl⟩ | ⟨rfl,e,rfl⟩ | ⟨rfl,e,rfl⟩ | ⟨rfl,e,rfl⟩ | ⟨rfl,e,rfl⟩ | ⟨rfl,e,rfl⟩ | ⟨rfl,e,rfl⟩ | ⟨rfl,e,rfl⟩ | ⟨rfl,e,rfl⟩
  ·constructor <;> simp[iE,nH,f (by omega),d (by omega),st0 (by omega),a (by omega)]
  ·constructor <;> simp[iE,nH,f (by omega),d (by omega),st0 (by omega),a (by omega)]
  ·constructor <;> simp[iE,nH,f (by omega),d (by omega),st0 (by omega),a (by omega)]
  ·constructor <;> simp[iE,nH,f (by omega),d (by omega),a (by omega)]
  ·constructor <;> simp[iE,nH,d (by omega),a (by omega)]
  ·constructor <;> simp[iE,nH,a (by omega)]
  ·have:=o e;constructor <;> simp[iE,nH,f (by omega),d (by omega),st0 (by omega),a (by omega)]
  ·constructor <;> simp[iE,nH]
  ·constructor <;> simp[iE,nH]
theorem ZB{j:aL}(h:gy j){what a:Int}(hn:0<=a/\a<=1099511627776)(ok:Bool) :
  bQ (uA 5000 j what a ok) λr=>(r.2≠0/\(Ah j.State what=none∨j.aQ=281474976710656))∨∃ns,Ah j.State what=some ns/\j.aQ<281474976710656/\r=(iE j what a ok ns,0):=by
 have e:=h.version;have m:=h.ny;unfold uA;dsimp only[gB];rw[uB h,aD,if_neg (by simp)];simp only[OL,Option.bind_some];rw[if_neg (by simp_all),VB,aD];cases hs:Ah j.State what with
 |none=>rw[if_pos (by simp),a_];simp_all
 |some ns=>
  dsimp only[Option.isSome,Option.getD];rw[if_neg (by simp),bz];refine ⟨λf=>by grind [a_],λf=>?_⟩;simp only[nB] at f;rw[show zaB 5000 j.aI=some j.aI from FW (by omega),aD,wr (x:=j.aQ+1) (by omega) (by omega)];simp only[U_,Option.bind_some,nB,JP,ne_eq,iU,bA];have fin:∀(o k:Bool)(t:Int),o=(if what=5 then ok else if what=6∨what=8∨what=7/\j.State=3 then false else j.Ok)->k=(if what=6 then true else if what=7 then false else j.dD)->t=(if what=3 then a else if what=4 then 0 else j.Start) ->
    bQ (if nH ns then some (({ Id:=j.Id,c_:=j.c_,Queue:=j.Queue,aK:=j.aK,az:=j.az,aU:=j.aU,aI:=j.aI,State:=ns,Ok:=o,dD:=k,aQ:=j.aQ+1,dF:=j.dF,Start:=t,End:=a,Array:=j.Array }:aL),(0:Int)) else some (({ Id:=j.Id,c_:=j.c_,Queue:=j.Queue,aK:=j.aK,az:=j.az,aU:=j.aU,aI:=j.aI,State:=ns,Ok:=o,dD:=k,aQ:=j.aQ+1,dF:=j.dF,Start:=t,End:=j.End,Array:=j.Array }:aL),(0:Int)))
     λr=>(r.2≠0/\((some ns:Option Int)=none∨j.aQ=281474976710656))∨∃d,(some ns:Option Int)=some d/\j.aQ<281474976710656/\r=(iE j what a ok d,0):=λo k t g hk i=>by
   subst g hk i;rw[bz];refine ⟨λq=>?_,λq=>?_⟩ <;> rw[a_] <;> refine .inr ⟨ns,rfl,by omega,?_⟩ <;> simp only[iE,q,if_true,cw]
  grind
structure AS (st:cz) (F:List aC):Prop where
 MZ:zX F.length st.ai
 yg:F.length<=300
 Tl:∀r∈F,aM r
 nodes:0<=st.aG.am
 now:0<=st.aT/\st.aT<=1099511627776
theorem good_of{s:bo}{st:cz}(q:ba s st):zX s.am.length st.ai:=λa d=>by obtain ⟨j,hj,P⟩:=q.cr.mem a d;exact ⟨P.pp.shares,by rw[P.need];exact (q.bg.each j hj).ok.need⟩
theorem Mv{s:bo}{st:cz}(q:ba s st):∀r∈dx s.am st.ai,aM r:=λr a=>by
 obtain ⟨i,d,rfl⟩:=iX a;have hn:i<s.am.length:=by grind [eV]
 refine vC.2 λc=>?_;rw[qy hn d c];have h1:=(po q.cr q.spec.nodes.ok).2 i hn c;have e:=wI (good_of q) i c;have f:=vC.1 (q.spec.nodes.ok _ (bG hn)) c;omega
end Go.Plain
end
section
namespace Go.Plain
open Go.Abs
variable{s:bo}{st st':cz}
theorem kE.up{j:aL}(h:kE s st j)(o:st.Next<=st'.Next)(i:st'.aT=st.aT):kE s st' j:=
 ⟨h.ok,by have:=h.next;omega,h.user,h.queue,by rw[i];exact h.born,by rw[i];exact h.start,by rw[i];exact h.fin,h.version⟩
theorem fj.up{j:aL}{a:ce}(h:fj s st j a)(e:st'.aT=st.aT):fj s st' j a:=⟨h.CO,h.need,h.pp,by rw[e];exact h.now⟩
theorem mem_set{l:List aL}{k:Nat}{j x:aL}(h:x∈l.set k j):x=j∨x∈l:=by grind
theorem idsC{l:List aL}{k:Nat}(hk:k<l.length){j:aL}(e:j.Id=l[k].Id){d:Int}(h:∃i∈l,i.Id=d):∃i∈l.set k j,i.Id=d:=by grind [List.mem_iff_getElem]
theorem Nk{l:List aL}(hs:cf l){k:Nat}(hk:k<l.length){j x:aL}(h:x∈l.set k j):x=j∨x∈l/\x.Id≠l[k].Id:=by
 obtain ⟨m,hm,rfl⟩:=iX h;rw[Wu] at hm;by_cases c:k=m
 ·simp_all
 ·rw[yB0 c];exact .inr ⟨bG _,λe=>c (hs.inj hm hk e).symm⟩
structure WQ (s:bo) (st:cz) (o j:aL):Prop where
 id:j.Id=o.Id
 OP:kE s st j
 fits:j.State<5->jD 5000 s j.Queue j.aK j.az=some true
 after:j.aI=o.aI
 live:j.State<5->o.State<5
theorem WQ.waits{k:Nat}(hk:k<st.aj.length){j:aL}(r:WQ s st st.aj[k] j)(q:ba s st)(e:st'.aj=st.aj.set k j):∀x∈st'.aj,H_ s st' x:=by
 intro x o hs;rw[e] at o;have up:∀d,(∃i∈st.aj,i.Id=d)->∃i∈st'.aj,i.Id=d:=λd h=>by rw[e];exact idsC hk r.id h
 rcases mem_set o with rfl | o
 ·refine ⟨r.fits hs,λd hd=>up _ ?_⟩;rw[r.after] at hd;exact (q.waits _ (bG hk) (r.live hs)).after d hd
 ·have:=q.waits x o hs;exact ⟨this.fits,λd hd=>up _ (this.after d hd)⟩
theorem WQ.bg{k:Nat}(hk:k<st.aj.length){j:aL}(r:WQ s st st.aj[k] j)(q:ba s st)(e:st'.aj=st.aj.set k j)(u:st'.Next=st.Next)(o:st'.aT=st.aT):dC s st':=by
 refine ⟨by rw[e,Wu];exact q.bg.len,λx i=>?_,by rw[e];exact OV q.bg.bF hk r.id⟩;rw[e] at i;rcases mem_set i with rfl | i
 ·exact r.OP.up (by omega) o
 ·exact (q.bg.each x i).up (by omega) o
theorem asc_at{A:List ce}(h:Ae A):∀i (a:i<A.length),∀m (h:m<A.length),m+1=i->A[m].bj<A[i].bj:=λi a m hm e=>by
 have:=yAU.1 h m i (by simp_all) (by simp_all) (by omega)
 simp_all
end Go.Plain
end
section
namespace Go.Plain
open Go.Abs
theorem MM{α:Type}{L:List (Int×α)}(hn:(L.map Prod.fst).Nodup){k:Int}{a:α}(h:(k,a)∈L):cN L k=some a:=by
 induction L with
 |nil=>cases h
 |cons p L ih=>
  obtain ⟨d,e⟩:=p;rw[ru,List.nodup_cons] at hn;simp only[cN]
  grind
theorem HE{α:Type}{L:List (Int×α)}{k:Int}{a:α}(h:cN L k=some a):(k,a)∈L:=by
 induction L with
 |nil=>simp[cN] at h
 |cons p L ih=>grind [Go.Abs.cN]
theorem Ij{α:Type}{L M:List (Int×α)}(h:L.Perm M)(hn:(M.map Prod.fst).Nodup)(k:Int):cN L k=cN M k:=by
 have d:(L.map Prod.fst).Nodup:=((h.map Prod.fst).nodup_iff).2 hn;cases hl:cN L k with
 |some a=>grind [MM,HE]
 |none=>
  cases hm:cN M k with
  |none=>rfl
  |some a=>grind [MM,HE]
theorem Xi{L:List (Int×ce)}{A:List ce}(h:L.Perm (mapA A))(a:Ae A):aY 5000 L=aY 5000 (mapA A):=by
 have d:((mapA A).map Prod.fst).Nodup:=by
  have e:(mapA A).map Prod.fst=A.map (·.bj):=by simp[mapA]
  rw[e];exact a.imp λh=>by omega
 have f:zH (λk=>k) L=zH (λk=>k) (mapA A):=by
  unfold zH;have c:(L.length<=1000000/\(L.map Prod.fst).Nodup/\∀p∈L,(Lit.int .i64 p.1).wf=true)↔((mapA A).length<=1000000/\((mapA A).map Prod.fst).Nodup/\∀p∈mapA A,(Lit.int .i64 p.1).wf=true):=by grind [List.Perm.length_eq]
  by_cases g:(L.length<=1000000/\(L.map Prod.fst).Nodup/\∀p∈L,(Lit.int .i64 p.1).wf=true)
  ·rw[if_pos g,if_pos (c.1 g)]
   grind [Go.mergeSort_of_perm_i]
  grind
 grind [Go.Abs.aY,Ij]
section
variable{s:bo}{st:cz}(q:ba s st){L:List (Int×ce)}(hL:L.Perm (mapA st.ai))
include q hL
theorem Bk:VR 5000 st.aG.aq st.aj L st.aT st.Next st.eo st.ay st.oF st.aG.am=some st:=by have hw:=VF q;have:=Yj (ZZ hw q);unfold VR at this ⊢;rw[Xi hL (BW q)];exact this
omit hL in
theorem TJ{a b:aL}(d:a∈st.aj)(hb:b∈st.aj)(h:a.Id=b.Id):a=b:=by
 obtain ⟨i,e,rfl⟩:=iX d;obtain ⟨j,hj,rfl⟩:=iX hb;have:=q.bg.bF.inj e hj h
 simp_all
theorem readyV(h30:st.aj.length<=30):∃r,zcq 5000 st.aG.aq st.aj L s.am s.aF s.aq s.aO s.ah.jb s.ah.cH s.ah.eR s.ah.bB s.bJ s.Mode s.aj s.gU s.aE s.aW s.cP s.In s.Out s.bI st.aT st.Next st.eo st.ay st.oF st.aG.am=some r/\r.Perm (st.aj.filter (EW st.aj)):=by have hw:=VF q;have hl:=hw.bg;have d:∀j∈st.aj.filter (EW st.aj),gy j:=λj hj=>(q.bg.each j (SE.1 hj).1).ok;have a:(st.aj.filter (EW st.aj)).length<=30:=lK (List.length_filter_le _ _) h30;obtain ⟨r,e,hp⟩:=Ub hw.spec q.spec { aT:=st.aT,oF:=st.oF } d (by omega);refine ⟨r,?_,hp⟩;unfold zcq;rw[Bk q hL,aD,SF hl q.bg.bF hw.after,aD,SA _ _ (by grind),xAb,nP hw.spec,aD,e];rfl
end
def I_(s:bo)(l:List aL)(id:Int):Bool:=match l.find? λj=>j.Id == id with
 |some j=>EW l j&&(mw 5000 s l j).getD false
 |none=>false
theorem find_ix{l:List aL}(hs:cf l){i:Nat}(a:i<l.length):(l.find? λj=>j.Id == l[i].Id)=some l[i]:=by
 cases h:l.find? (λj=>j.Id == l[i].Id) with
 |none=>
  have:=List.find?_eq_none.1 h _ (bG a)
  simp_all
 |some j=>
  have h1:=List.find?_some h;simp only[nB] at h1;obtain ⟨k,hk,rfl⟩:=iX (yB3 h);have:=hs.inj hk a h1
  simp_all
theorem VI{s:bo}{l:List aL}{id:Int}(h:I_ s l id=true):∃i,∃a:i<l.length,l[i].Id=id/\EW l l[i]=true/\l[i].State=1:=by
 unfold I_ at h;cases e:l.find? (λj=>j.Id == id) with
 |none=>simp_all
 |some j=>
  rw[e] at h;simp only[bN] at h;have h1:=List.find?_some e;simp only[nB] at h1;obtain ⟨i,a,rfl⟩:=iX (yB3 e);refine ⟨i,a,h1,h.1,?_⟩;have:=h.1;unfold EW at this
  simp_all
theorem ZU(s:bo)(l:List aL){K:aL->Option Bool}(id:Int):∀r:List aL,lpR (λ(d:aL) (e:Unit) f=>if (d.Id == id)=true then K d else f ()) (λ(e:Unit)=>some false) r ()=match r.find? λj=>j.Id == id with
  |some j=>K j
  |none=>some false
 |[]=>rfl
 |a :: r => by
  unfold lpR;rw[List.find?_cons];cases h:(a.Id == id) with
  |true=>simp_all
  |false=>rw[if_neg (by simp)];exact ZU s l id r
theorem mayV{s:bo}{st:cz}(q:ba s st){L:List (Int×ce)}(hL:L.Perm (mapA st.ai))(id:Int) :
  zed 5000 st.aG.aq st.aj L id s.am s.aF s.aq s.aO s.ah.jb s.ah.cH s.ah.eR s.ah.bB s.bJ s.Mode s.aj s.gU s.aE s.aW s.cP s.In s.Out s.bI st.aT st.Next st.eo st.ay st.oF st.aG.am=some (I_ s st.aj id):=by
 have hw:=VF q;have hl:=hw.bg;unfold zed;rw[Bk q hL,aD,SF hl q.bg.bF hw.after,aD];refine (ZU s st.aj (K:=λa=>(zaO 5000 s.am s.aF s.aq s.aO s.ah.jb s.ah.cH s.ah.eR s.ah.bB s.bJ s.Mode s.aj s.gU s.aE s.aW s.cP s.In s.Out s.bI).bind λd=>(mw 5000 d st.aj a).bind λf=>some f) id _).trans ?_;have g:∀j∈st.aj,j.Id=id->∀x∈st.aj,x.Id=id->x=j:=λj hj e x h i=>TJ q h hj (i.trans e.symm);unfold I_;cases e:st.aj.find? (λj=>j.Id == id) with
 |none=>grind
 |some j=>
  have h1:=List.find?_some e;simp only[nB] at h1;have hj:=yB3 e;obtain ⟨b,m⟩:=F_ hw.spec q.spec hl j;by_cases r:EW st.aj j=true
  ·have:(st.aj.filter (EW st.aj)).find? (λj=>j.Id == id)=some j:=by
    cases o:(st.aj.filter (EW st.aj)).find? (λj=>j.Id == id) with
    |none=>simp_all
    |some x=>grind
   grind [nP,lr.spec]
  grind
end Go.Plain
end
section
namespace Go.Plain
open Go.Abs
section
variable{l:List aL}
theorem set_ok(hl:l.length<=300)(hs:cf l){k:Nat}(hk:k<l.length){j:aL}(hj:gy j)(a:j.Id=l[k].Id):zcX 5000 l j=some (l.set k j,0):=by have:=hj.ny;unfold zcX;rw[uB hj,aD,if_neg (by simp),a,Iw hl hs hk,aD];dsimp only;rw[if_neg (by simp),DJ (by omega),aD,bZ hk,aD,xAc]
theorem QT(hl:l.length<=300)(hs:cf l){k:Nat}(hk:k<l.length){j:aL}(hj:gy j)(d:j.Id=l[k].Id){Q:List Int}(a:qG Q) :
  zbr 5000 Q l l[k] j=some (l.set k j,oW Q l[k].Queue j.Queue,0):=by
 unfold zbr;rw[set_ok hl hs hk hj d,aD];dsimp only;rw[if_neg (by simp),Og a,aD];dsimp only[gB];unfold oW;by_cases h:j.Queue=l[k].Queue
 ·simp_all
 ·rw[if_pos (by simp_all),if_neg h,Og (Hz a _),aD]
end
end Go.Plain
end
section
namespace Go.Plain
open Go.Abs
def zS(A:List ce)(a:ce):List ce:=match A with
 |[]=>[a]
 |b::A=>if b.bj<a.bj then b::zS A a else a::b::A
theorem mC(A:List ce)(a:ce):(zS A a).Perm (a::A):=by
 induction A with
 |nil=>exact List.Perm.refl _
 |cons b A ih=>grind [zS]
theorem kh{A:List ce}{a x:ce}:x∈zS A a↔x=a∨x∈A:=by rw[(mC A a).mem_iff,gq]
theorem WL{A:List ce}{a:ce}(h:Ae A)(hn:∀b∈A,b.bj≠a.bj):Ae (zS A a):=by
 induction A with
 |nil=>simp[zS,Ae]
 |cons b A ih=>
  unfold Ae at h ih ⊢;rw[ru,yBm] at h;unfold zS;split
  ·rename_i g;rw[ru,yBm];refine ⟨λx e=>?_,ih h.2 λc d=>hn c (lI _ d)⟩;obtain ⟨c,d,rfl⟩:=gD.1 e;rcases kh.1 d with rfl | d
   ·exact g
   simp_all
  grind [List.pairwise_cons]
theorem zr{A B:List ce}(h:A.Perm B)(i:Int)(c:Nat):cT A i c=cT B i c:=by
 induction h with
 |nil=>rfl
 |cons x _ ih=>grind [zdE]
 |swap x y l=>simp only[zdE];omega
 |trans _ _ h1 a=>omega
theorem msetV{α:Type}{L:List (Int×α)}{k:Int}{a:α}(h:cN L k=none):jZ L k a=L++[(k,a)]:=by
 induction L with
 |nil=>rfl
 |cons p L ih=>
  obtain ⟨d,f⟩:=p;simp only[cN] at h;split at h
  ·simp at h
  ·rename_i e;simp only[jZ,if_neg e,ih h,List.cons_append]
def kQ(j:aL)(a:Int):aL:=iE j 3 a false 3
def dN(j:aL)(sh:List cU):ce:={ bj:=j.Id,az:=j.az,ae:=sh }
def FV(st:cz)(k:Nat)(j:aL)(sh:List cU):cz:=
 { st with aj:=st.aj.set k (kQ j st.aT),ai:=zS st.ai (dN j sh),aG:={ aq:=oW st.aG.aq j.Queue j.Queue,am:=Rg st.aG.am } }
section
variable{s:bo}{st:cz}(q:ba s st){k:Nat}(hk:k<st.aj.length)(h1:st.aj[k].State=1){sh:List cU}(hs:lV s st.aj[k] sh)(hf:xS (dx s.am st.ai) (dN st.aj[k] sh))
include q hk h1
theorem FO:∀a∈st.ai,a.bj≠st.aj[k].Id:=λa d e=>by
 obtain ⟨R,H⟩:=KL q.spec q.bg q.cr;have:=(H _ (bG hk)).has.1 ⟨a,d,e⟩
 grind [sU]
theorem Sr:st.aj[k].aQ<281474976710656:=by have j:=q.bg.each _ (bG hk);have:=j.version;have:=FP st.aj[k].State;have:=q.spec.vW;omega
theorem Cr:gy (kQ st.aj[k] st.aT):=by have j:=q.bg.each _ (bG hk);exact QB j.ok q.nums.now false (ns:=3) (by rw[h1];rfl) (Sr q hk h1)
include hs hf
theorem O_:dx s.am (FV st k st.aj[k] sh).ai=lc (dx s.am st.ai) (dN st.aj[k] sh):=by
 show dx s.am (zS st.ai (dN st.aj[k] sh))=_;refine yBZ (by grind [eV,zeL]) λi h1 a=>dY λc=>?_;have hn:i<s.am.length:=by grind [eV]
 rw[qy hn h1 c,nO a,q_,Aq,Bf,qy hn (by grind [eV]) c,zr (mC ..),zdE];omega
theorem startV{L:List (Int×ce)}(hL:L.Perm (mapA st.ai)):∃L',zbx 5000 st.aG.aq st.aj L st.aj[k].Id sh s.am s.aF s.aq s.aO s.ah.jb s.ah.cH s.ah.eR s.ah.bB s.bJ s.Mode s.aj s.gU s.aE s.aW s.cP s.In s.Out s.bI st.aT st.aG.am (dx s.am st.ai) =
   some (L',(FV st k st.aj[k] sh).aG.aq,(FV st k st.aj[k] sh).aj,0,dx s.am (FV st k st.aj[k] sh).ai,(FV st k st.aj[k] sh).aG.am)/\L'.Perm (mapA (FV st k st.aj[k] sh).ai):=by
 have hw:=VF q;have hl:=hw.bg;have r:=q.bg.each _ (bG hk);have f:=r.ok;have R:=f.ny;have sl:sh.length<=300:=by have:=jG hs.shares (by omega);have:=q.spec.nodes.hi;omega
 have i:=BW q;have none:cN L st.aj[k].Id=none:=by
  rw[Ij hL (by
   have e:(mapA st.ai).map Prod.fst=st.ai.map (·.bj):=by simp[mapA]
   rw[e];exact i.imp λh=>by omega)]
  grind [HP,FO]
 obtain ⟨U,u,v⟩:=LI hw.spec q.spec st.aj[k] sh sl;have:=v.2 hs;subst this;obtain ⟨y,A,E⟩:=ZB f (what:=3) q.nums.now false;have G:Ah st.aj[k].State 3=some 3:=by rw[h1];rfl
 have m:y=(kQ st.aj[k] st.aT,0):=by
  rcases E with ⟨_,g | g⟩ | ⟨W,d,_,o⟩
  ·simp_all
  ·have:=Sr q hk h1;omega
  ·rw[G] at d;injection d with d
   subst d;exact o
 subst m;have K:=Mv q;obtain ⟨p,N,d,o⟩:=KD (M:=L) (a:=dN st.aj[k] sh) (F:=dx s.am st.ai) (by rw[eV];have:=q.spec.nodes.hi;omega) sl K;have O:vL L (dx s.am st.ai) (dN st.aj[k] sh):=by
  refine ⟨f.id,λe=>?_,by rw[eV];exact hs.shares,f.need,none,hf⟩;have P:sh=[]:=e;have t:=hs.Wb;rw[P] at t;have:=f.many
  grind [lU]
 have z:=d.2 O;obtain ⟨m1,Q⟩:=o z;refine ⟨p.1,?_,?_⟩
 ·unfold zbx;rw[get_some hl q.bg.bF hk (by omega),aD];dsimp only;rw[if_neg (by simp),if_neg (by simp[h1])];rw[show ze1 5000 ({ am:=s.am,aF:=s.aF,aq:=s.aq,aO:=s.aO,ah:=({ jb:=s.ah.jb,cH:=s.ah.cH,eR:=s.ah.eR,bB:=s.ah.bB }:HN),bJ:=s.bJ,Mode:=s.Mode,aj:=s.aj,gU:=s.gU,aE:=s.aE,aW:=s.aW,cP:=s.cP,In:=s.In,Out:=s.Out,bI:=s.bI }:bo) st.aj[k] sh=some true from u,aD,if_neg (by simp),A,aD,if_neg (by simp)];rw[show zaR 5000 L ({ bj:=st.aj[k].Id,az:=st.aj[k].az,ae:=sh }:ce) (dx s.am st.ai)=some p from N,aD,if_neg (by simp[z]),Nu q.use.nodes.1,aD,QT hl q.bg.bF hk (Cr q hk h1) rfl q.use.stamps,aD];rw[O_ q hk h1 hs hf,Q.eq];rfl
 ·rw[m1];show (jZ L st.aj[k].Id (dN st.aj[k] sh)).Perm _;rw[msetV none];show (L++[(st.aj[k].Id,dN st.aj[k] sh)]).Perm (mapA (zS st.ai (dN st.aj[k] sh)));refine List.Perm.trans ?_ ((mC st.ai (dN st.aj[k] sh)).map _).symm;exact (yBv.trans (List.Perm.cons _ hL))
theorem Cg(p:∀x∈sh,∀b∈st.ay,b.Node=x.Node->¬b.bK<st.aT+st.aj[k].aU):ba s (FV st k st.aj[k] sh):=by
 obtain ⟨R,H⟩:=KL q.spec q.bg q.cr;have g:=q.bg.each _ (bG hk);have z:=Cr q hk h1;have t:=BW q;have u:=FO q hk h1;have MZ:=R.MZ;have R_:=g.version;rw[h1] at R_;have r:WQ s st st.aj[k] (kQ st.aj[k] st.aT):=by refine ⟨rfl,⟨z,g.next,g.user,g.queue,g.born,Jz _,g.fin,?_⟩,λ_=>(q.waits _ (bG hk) (by omega)).fits,rfl,λ_=>by omega⟩;show st.aj[k].aQ+1<=s.aE+jI 3;have:jI 1=0:=rfl;have:jI 3=1:=rfl;omega
 have J:=r.bg (st':=FV st k st.aj[k] sh) hk q rfl rfl rfl;have o:Ae (zS st.ai (dN st.aj[k] sh)):=WL t u;have v:=g.ok.wall;have y:∀(i:Nat)(m:i<s.am.length) c,cT (dN st.aj[k] sh::st.ai) i c<=cmp c s.am[i]:=λi m c=>by
  have hl:i<(dx s.am st.ai).length:=by grind [eV]
  have:=vC.1 (hf i hl) c;rw[q_,Aq,Bf,qy m hl c] at this
  grind [zdE]
 refine ⟨q.spec,⟨q.nums.now,q.nums.next,q.nums.book⟩,J,r.waits hk q rfl,YQ q.spec J ⟨λi m=>?_,λi m c=>?_⟩ λx f=>?_,⟨q.gM.cu,q.gM.live,λa d=>?_⟩,⟨q.use.len,q.use.use,by show (oW _ _ _).length=_;rw[MT];exact q.use.qlen,Tp q.use.nodes,Pf q.use.stamps _ _⟩⟩
 ·have hm:∀a∈zS st.ai (dN st.aj[k] sh),(∃j∈(FV st k st.aj[k] sh).aj,j.Id=a.bj)/\bn a.ae s.am.length/\aM a.az:=λa d=>by
   rcases kh.1 d with rfl | d
   ·exact ⟨⟨kQ st.aj[k] st.aT,KX.2 ⟨k,by show k<(st.aj.set k _).length;simp_all,yB7 _⟩,rfl⟩,hs.shares,g.ok.need⟩
   ·obtain ⟨x,f,P⟩:=q.cr.mem _ d;exact ⟨idsC hk r.id ⟨x,f,P.CO.symm⟩,MZ _ d⟩
  obtain ⟨m1,A,E⟩:=hm _ (bG m);exact ⟨asc_at o i m,m1,A,E⟩
 ·show cT (zS st.ai (dN st.aj[k] sh)) i c<=_
  grind [zr,mC]
 ·rcases Nk q.bg.bF hk f with rfl | ⟨f,c⟩
  ·refine ⟨⟨λ_=>rfl,λ_=>⟨_,kh.2 (.inl rfl),rfl⟩⟩,λa d e=>?_⟩;rcases kh.1 d with rfl | d
   ·exact ⟨rfl,rfl,⟨hs.shares,hs.Wb,hs.q,hs.part⟩,by show st.aT<st.aT+st.aj[k].aU;omega⟩
   ·exact absurd e (u a d)
  ·have h:=H x f;refine ⟨⟨λ⟨a,d,e⟩=>?_,λF=>?_⟩,λa d e=>?_⟩
   ·rcases kh.1 d with rfl | d
    ·exact absurd e.symm c
    ·exact h.has.1 ⟨a,d,e⟩
   ·obtain ⟨a,d,e⟩:=h.has.2 F;exact ⟨a,kh.2 (.inr d),e⟩
   ·rcases kh.1 d with rfl | d
    ·exact absurd e.symm c
    ·exact (h.Zy a d e).up rfl
 ·intro x f e;rcases kh.1 d with rfl | d
  ·rcases Nk q.bg.bF hk f with rfl | ⟨f,c⟩
   ·exact p
   ·exact absurd e c
  ·rcases mem_set f with rfl | f
   ·exact absurd (show a.bj=st.aj[k].Id from e.symm) (u a d)
   ·exact q.gM.yb a d x f e
end
end Go.Plain
end
section
namespace Go.Plain
open Go.Abs
def jR(q:fo)(w:A_):dt×Bool:=(zaC 5000 q w).getD ({ bj:=0,At:=0,ae:=[] },false)
section
variable{nodes:List (List bO)}{q:fo}{L:Nat}(hL:L<=200)(hq:iV q)(hp:PR nodes q L)
include hL hq hp
theorem DK{w:A_}(hw:dM q w):zaQ 5000 nodes w.Part w.aK w.az w.aU q.aT q.S.aF=some (jR q w)/\zaC 5000 q w=some (jR q w)/\∃T,zC q T/\rz q w T (jR q w):=by grind [Ln,jR]
structure wk (q:fo) (w:A_) (cD:Int) (sh:List cU):Prop where
 lo:q.aT<=cD
 hi:cD<=1099511627776
 shares:bn sh q.S.am.length
 Wb:lU sh=w.aK
 part:∀y∈sh,y.Node∈bX q w
 fit:∀(k:Nat)(h:k<q.S.am.length)(t:Int),cD<=t->t<cD+w.aU->jU (mulR (dw sh k) w.az) (bq q k t)
theorem WN{w:A_}(hw:dM q w){t:Int}(h:q.aT<=t)(d:(bV q w t).2=true):wk q w t (bV q w t).1:=by
 have i:=Eh hL hq hp hw d;obtain ⟨F,m,f,_,e⟩:=wg (by omega) hq hp hw h i;have w1:bV q w t=wh F (bX q w) w.aK w.az:=by grind [bV]
 have G:=hq.spec.parts.ok _ (g_ hw).2;rw[w1] at d ⊢;obtain ⟨p1,o,p,r⟩:=Va f (by grind [Cu.len]) hw.need hw.nU d;rw[m.len] at p1;refine ⟨h,i,p1,o,p,λk hk u v z=>?_⟩;have a:k<F.length:=by grind [Cu.len]
 have A:aM (bq q k u):=hp.right k u (by omega) (by omega) (by omega);refine mulR_le (rH (λy E=>by have:=p1.mem y E;omega) _) hw.need ?_ A;rcases r k a with g | g
 ·left;intro c;have h1:=(m.low k a).le u _ v z rfl c;have K:=g c;omega
 omega
theorem iw{w:A_}(hw:dM q w)(h:(jR q w).2=true):wk q w (jR q w).1.At (jR q w).1.ae:=by obtain ⟨_,_,T,a,d⟩:=DK hL hq hp hw;obtain ⟨e,f,_,_,g⟩:=d.yes h;rw[g];exact WN hL hq hp hw ((a.mem _).1 e).1 f
end
def eG(j:aL)(p:dt):oA:={ bK:=p.At,To:=p.At+j.aU,az:=j.az,ae:=p.ae }
def XK:zbm:={ jE:={ bj:=0,At:=0,ae:=[] },dK:={ Id:=0,c_:=0,Queue:=0,aK:=0,az:={ bP:=0,Mem:=0,bS:=0,bT:=0 },aU:=0,aI:=[],State:=0,Ok:=false,dD:=false,aQ:=0,dF:=0,Start:=0,End:=0,Array:=0 } }
theorem LA{q:fo}{w:A_}{j:aL}{p:dt}(h:wk q w p.At p.ae)(hj:gy j)(hq:iV q):kO (eG j p) q.S.am.length:=by
 have n:=hq.now;have a:=hj.wall;have d:=h.lo;have e:=h.hi;have nn:=hq.spec.nodes.hi;refine ⟨h.shares,?_,hj.need,?_,?_⟩
 ·have:=jG h.shares (by omega);show p.ae.length<=300;omega
 ·show 0<=p.At;omega
 ·show p.At+j.aU<=_;omega
theorem Nd {q:fo} {u:oA} (hq:iV q) (d:kO u q.S.am.length) (hl:q.L.length+1≤100):iV (AF q u):=
 ⟨hq.spec,hq.now,hq.cu,fun v a=>by
  rcases gp.1 a with a | a
  ·exact hq.used v a
  ·rw [zi.1 a]; exact d,by show (q.L++[u]).length≤100; simp_all⟩
section
variable{nodes:List (List bO)}{q:fo}{L:Nat}(hL:L<=200)(hq:iV q)(hp:PR nodes q L){st:cz}{j:aL}(hj:kE q.S st j)
include hL hq hp hj
theorem Oc{r:dt×Bool}(h:r.2=true):(named j r).1={ bj:=j.Id,At:=r.1.At,ae:=r.1.ae }/\(named j r).2=true:=by unfold named;simp_all
theorem zO:zbC 5000 nodes j q.S.am q.S.aF q.S.aq q.S.aO q.S.ah.jb q.S.ah.cH q.S.ah.eR q.S.ah.bB q.S.bJ q.S.Mode q.S.aj q.S.gU q.S.aE q.S.aW q.S.cP q.S.In q.S.Out q.S.bI q.aT q.S.aF=some (named j (jR q (ca q.S j))):=by
 have hw:=jr hq.spec rfl hj;obtain ⟨a,_,_⟩:=DK hL hq hp hw;obtain ⟨h,e,d⟩:=qI ⟨hj.ok.queue.1,hj.queue⟩;have f:=hj.queue;have g:=hj.ok.queue.1;rw[d] at a ⊢;unfold zbC;rw[nP (fZ hq.spec),aD,if_neg (by simp_all),e,aD];dsimp only at a ⊢;rw[a,aD];unfold named
 grind
theorem Ad:∃nodes',zaI 5000 nodes j q.aT q.S.aF q.S.am q.S.aF q.S.aq q.S.aO q.S.ah.jb q.S.ah.cH q.S.ah.eR q.S.ah.bB q.S.bJ q.S.Mode q.S.aj q.S.gU q.S.aE q.S.aW q.S.cP q.S.In q.S.Out q.S.bI =
   (if (named j (jR q (ca q.S j))).2=true then some (nodes',{ jE:=(named j (jR q (ca q.S j))).1,dK:=j },true) else some (nodes,XK,false)) /\
  ((jR q (ca q.S j)).2=true->PR nodes' (AF q (eG j (named j (jR q (ca q.S j))).1)) (L+2)):=by
 have hw:=jr hq.spec rfl hj;have m:=zO hL hq hp hj;unfold zaI;rw[m,aD];by_cases h:(jR q (ca q.S j)).2=true
 ·obtain ⟨d,a⟩:=Oc hL hq hp hj h;have P:=iw hL hq hp hw h;obtain ⟨_,_,f⟩:=qI ⟨hj.ok.queue.1,hj.queue⟩;have o:(ca q.S j).az=j.az:=by rw[f]
  have p:(ca q.S j).aU=j.aU:=by rw[f]
  have i:=P.fit;rw[o,p] at i;obtain ⟨nodes',e,hp'⟩:=Vb hL hq hp P.shares hj.ok.need hj.ok.wall P.lo P.hi i;refine ⟨nodes',?_,λ_=>?_⟩
  ·rw[d,a,if_neg (by simp),if_pos rfl];dsimp only;rw[e,aD,qj (hp.len.trans hp'.len.symm)];rfl
  ·rw[d];exact hp'
 ·have a:(named j (jR q (ca q.S j)))=({ bj:=0,At:=0,ae:=[] },false):=by unfold named;simp_all
  refine ⟨nodes,?_,λg=>absurd g h⟩;rw[a,if_pos (by simp),if_neg (by simp)];rfl
end
end Go.Plain
end
section
namespace Go.Plain
open Go.Abs
theorem fit_cnt{v need:aC}(i:aM v)(hn:aM need){k:Int}(hk:k<=64)(h:jU (mulR k need) v):k<=cG v need:=by
 have o:=se i hn;rcases yBS (cG v need) k with q | q
 ·exfalso;obtain ⟨p,hp,d⟩:=o.max (by omega);have f0:=h 0;have f1:=h 1;have f:=h 2;have g:=h 3;rw[Bf] at f0 f1 f g;have e:∀a b:Int,0<=b->a<(cG v need+1) * b->k * b<=a->False:=λa b hb h1 m=>by
   have:(cG v need+1) * b<=k * b:=yAO (by omega) hb;omega
  simp only[Fv,gq,KY,KU] at hp;rcases hp with rfl | rfl | rfl | rfl
  ·exact e _ _ hn.FR.1 d f0
  ·exact e _ _ hn.mem.1 d f1
  ·exact e _ _ hn.Io.1 d f
  ·exact e _ _ hn.Jc.1 d g
 ·exact q
structure SG (x:Int×List cU):Prop where
 left:0<=x.1
 many:∀y∈x.2,0<=y.aK
theorem Ma{F:List aC}{need:aC}{x:Int×List cU}(h:SG x){n:Int}(d:0<=cG (ee F n) need) :
  SG (Gg F need x n)/\(∀m,dw x.2 m<=dw (Gg F need x n).2 m)/\zw x.1 (cG (ee F n) need)<=dw (Gg F need x n).2 n:=by
 have m0:0<=zw x.1 (cG (ee F n) need)/\zw x.1 (cG (ee F n) need)<=x.1:=by have:=h.left;unfold zw;omega
 unfold Gg;by_cases e:zw x.1 (cG (ee F n) need)=0
 ·rw[if_pos e,e];exact ⟨h,λm=>Jz _,rH h.many n⟩
 ·rw[if_neg e];have one:∀m,dw [({ Node:=n,aK:=zw x.1 (cG (ee F n) need) }:cU)] m=if n=m then zw x.1 (cG (ee F n) need) else 0:=λm=>by simp[dw]
  refine ⟨⟨by dsimp only;omega,λy a=>?_⟩,λm=>?_,?_⟩
  ·rcases gp.1 a with a | a
   ·exact h.many y a
   ·rw[zi] at a;subst a;exact m0.1
  ·dsimp only;rw[Di,one];split <;> omega
  ·dsimp only;rw[Di,one,if_pos rfl];have:=rH h.many n;omega
theorem Hq{F:List aC}{need:aC}:∀(l:List Int){x:Int×List cU},SG x->(∀n∈l,0<=cG (ee F n) need)->∀m,dw x.2 m<=dw (l.foldl (Gg F need) x).2 m
 |[],x,_,_,m=>Jz _
 |n :: l, x, h, a, m => by obtain ⟨d,e,_⟩:=Ma h (a n (ql ..));exact yCd (e m) (Hq l d (λk hk=>a k (lI _ hk)) m)
theorem WE{F G:List aC}{need:aC}:∀(l:List Int){x:Int×List cU},SG x->(∀n∈l,0<=cG (ee F n) need)->(∀n∈l,cG (ee G n) need<=cG (ee F n) need) ->
  (∀n∈l,dw (l.foldl (Gg F need) x).2 n<=cG (ee G n) need)->l.foldl (Gg G need) x=l.foldl (Gg F need) x
 |[],x,_,_,_,_=>rfl
 |n :: l, x, h, d, a, hf => by
  obtain ⟨f,_,i⟩:=Ma h (d n (ql ..));have f1:=Hq l f (λk hk=>d k (lI _ hk)) n;have g:=hf n (ql ..);have o:=a n (ql ..);rw[List.foldl_cons] at g ⊢;have m:zw x.1 (cG (ee G n) need)=zw x.1 (cG (ee F n) need):=by have:=yCd i (yCd f1 g);unfold zw at this ⊢;split at this <;> split <;> omega
  have e:Gg G need x n=Gg F need x n:=by unfold Gg;rw[m]
  rw[e,List.foldl_cons];exact WE l f (λk hk=>d k (lI _ hk)) (λk hk=>a k (lI _ hk)) λk hk=>by
   have:=hf k (lI _ hk)
   rwa [List.foldl_cons] at this
theorem OZ{F G:List aC}{l:List Int}{need:aC}{many:Int}(a:ib F l)(d:ib G l)(m:iY l F.length)(o:iY l G.length)(hn:aM need)(i:need≠bR)
  (f:∀n∈l,jU (ee G n) (ee F n)) (p:(wh F l many need).2=true) (hf:∀n∈l,jU (mulR (dw (wh F l many need).1 n) need) (ee G n)):wh G l many need=wh F l many need:=by
 obtain ⟨h1,r⟩:=mF.1 p;have e:wh F l many need=((qR F need l many).2,true):=by unfold wh;rw[if_neg (by omega)]
 rw[e] at hf ⊢;have P:=yK a m hn i h1 l.length;rw[uj] at P;have h:=λn=>o_ P.shares n;have eq:qR G need l many=qR F need l many:=WE l (x:=(many,[])) ⟨by dsimp only;omega,λy t=>by cases t⟩ (λn hm=>(lF a hn hm).1) (λn hm=>Hg (d.Tl n hm) (a.Tl n hm) hn (f n hm))
  λn hm=>fit_cnt (d.Tl n hm) hn (h n).2 (hf n hm)
 have Q:=yK d o hn i h1 l.length;rw[uj,eq] at Q;have u:=P.left;have v:=Q.left;rw[if_pos r] at u;have z:many<=cO G l need:=by
  rcases yBS (cO G l need) many with g | g
  ·rw[if_neg (by omega)] at v;omega
  ·exact g
 unfold wh;rw[if_neg (by omega),eq]
structure Jq (q q':fo):Prop where
 S:q'.S=q.S
 now:q'.aT=q.aT
 cu:q'.ay=q.ay
 used:∀u∈q.L,u∈q'.L
 less:∀k t c,cmp c (aN q.L k t)<=cmp c (aN q'.L k t)
theorem Jq.free{q q':fo}(h:Jq q q')(k t:Int):jU (bq q' k t) (bq q k t):=λc=>by
 unfold bq;rw[h.cu,h.S];by_cases g:Dd q.ay k t
 ·rw[if_pos g,if_pos g];exact Jz _
 ·rw[if_neg g,if_neg g,Aq,Aq];have:=h.less k t c;omega
section
variable{nodes nodes':List (List bO)}{q q':fo}{L L':Nat}(hL:L<=200)(hL':L'<=200)(hq:iV q)(hq':iV q')(hp:PR nodes q L)(hp':PR nodes' q' L'){w:A_}(hw:dM q w)(B:Jq q q')
include hL hL' hq hq' hp hp' hw B
theorem Nz{t:Int}(h:q.aT<=t)(i:t<=1099511627776):∃F G,Cu q t (t+w.aU) F/\Cu q' t (t+w.aU) G/\ib F (bX q w)/\ib G (bX q w)/\bV q w t=wh F (bX q w) w.aK w.az/\bV q' w t=wh G (bX q w) w.aK w.az/\∀n∈bX q w,jU (ee G n) (ee F n):=by
 have e:dM q' w:=⟨by rw[B.S];exact hw.part,hw.many,hw.need,hw.nU,hw.wall⟩;have o:bX q' w=bX q w:=by unfold bX;rw[B.S]
 obtain ⟨F,f,a,_,p⟩:=wg (by omega) hq hp hw h i;obtain ⟨G,g,d,_,m⟩:=wg (by omega) hq' hp' e (by rw[B.now];exact h) i;rw[o] at d m;refine ⟨F,G,f,g,a,d,by unfold bV;rw[p];rfl,by unfold bV;rw[m];rfl,λn hn c=>?_⟩;have nb:=a.node n hn;obtain ⟨hf,_,r⟩:=pO (F:=F) nb.1 nb.2;have y:G.length=F.length:=by rw[g.len,f.len,B.S]
 obtain ⟨z,_,A⟩:=pO (F:=G) nb.1 (by rw[y];exact nb.2);have E:=f.low _ hf;have K:=g.low _ z;rw[r,A];obtain ⟨u,v,M,N,O,ev⟩:=E.cD c;rw[<-ev,O];exact yCd (K.le u _ M N rfl c) (B.free _ u c)
theorem TP{t:Int}(f:q.aT<=t)(a:(bV q' w t).2=true):(bV q w t).2=true:=by have d:dM q' w:=⟨by rw[B.S];exact hw.part,hw.many,hw.need,hw.nU,hw.wall⟩;have g:=Eh hL' hq' hp' d a;obtain ⟨F,G,r,u,h,i,m,o,e⟩:=Nz hL hL' hq hq' hp hp' hw B f g;rw[o] at a;rw[m];obtain ⟨h1,p⟩:=mF.1 a;exact mF.2 ⟨h1,yCd p (EJ i h hw.need e)⟩
theorem Un{t:Int}(o:q.aT<=t)(a:(bV q w t).2=true)(hf:∀(k:Nat),k<q.S.am.length->∀u,t<=u->u<t+w.aU->jU (mulR (dw (bV q w t).1 k) w.az) (bq q' k u)):bV q' w t=bV q w t:=by
 have p:=Eh hL hq hp hw a;obtain ⟨F,G,d,f,r,g,y,z,e⟩:=Nz hL hL' hq hq' hp hp' hw B o p;have A:=hq.spec.parts.ok _ (g_ hw).2;rw[y] at a hf ⊢;rw[z];have h:G.length=F.length:=by rw[f.len,d.len,B.S]
 have i:iY (bX q w) F.length:=by rw[d.len];exact A.2
 refine OZ r g i (by rw[h];exact i) hw.need hw.nU e a λn hn c=>?_;have nb:=g.node n hn;obtain ⟨m,_,E⟩:=pO (F:=G) nb.1 nb.2;have K:=f.low _ m;rw[E];obtain ⟨u,v,M,N,O,ev⟩:=K.cD c;rw[<-ev,O];have:=hf n.toNat (by rw[<-d.len,<-h];exact m) u M N c
 rwa [yBM nb.1] at this ⊢
theorem Q_(z:(jR q w).2=true)(hf:∀(k:Nat),k<q.S.am.length->∀u,(jR q w).1.At<=u->u<(jR q w).1.At+w.aU->jU (mulR (dw (jR q w).1.ae k) w.az) (bq q' k u)):jR q' w=jR q w:=by
 have i:dM q' w:=⟨by rw[B.S];exact hw.part,hw.many,hw.need,hw.nU,hw.wall⟩;obtain ⟨_,_,T,m,F⟩:=DK hL hq hp hw;obtain ⟨_,_,G,d,e⟩:=DK hL' hq' hp' i;obtain ⟨K,o,M,N,A⟩:=F.yes z;have p:=(m.mem _).1 K;rw[A] at hf;have r:=Un hL hL' hq hq' hp hp' hw B p.1 o hf;have f:(jR q w).1.At∈G:=(d.mem _).2 ⟨by rw[B.now];exact p.1,by
  rcases p.2 with h | ⟨u,O,h⟩ | ⟨b,hb,h⟩
  ·exact .inl (by rw[B.now];exact h)
  ·exact .inr (.inl ⟨u,B.used u O,h⟩)
  ·exact .inr (.inr ⟨b,by rw[B.cu];exact hb,h⟩)⟩
 have E:(jR q' w).2=true:=by
  cases g:(jR q' w).2 with
  |true=>rfl
  |false=>have:=(e.no g).1 _ f;rw[r,o] at this;cases this
 obtain ⟨P,Q,R,U,W⟩:=e.yes E;have X:=R _ f (by rw[r];exact o);have t:=(d.mem _).1 P;rw[B.now] at t;have back:(bV q w (jR q' w).1.At).2=true:=TP hL hL' hq hq' hp hp' hw B t.1 Q;obtain ⟨x,Y,Z,x3,x4⟩:=wJ T t.1;have xT:x∈T:=by
  rcases Y with rfl | h
  ·exact (m.mem _).2 ⟨Jz _,.inl rfl⟩
  ·exact h
 have wx:(bV q w x).2=true:=BD hL hq hp hw Z x3 (λn hn u u1 u2=>by refine (vk (by omega) u2 λy v hy ⟨g1,g2⟩=>?_).symm;have:=x4 y ((m.mem y).2 ⟨v,hy⟩) (by omega);omega) back
 have aa:=M x xT wx;have cD:(jR q' w).1.At=(jR q w).1.At:=by omega
 have e1:(jR q' w).1=(jR q w).1:=by
  have s:(jR q' w).1.ae=(jR q w).1.ae:=by rw[W,A,cD,r]
  have j:(jR q' w).1.bj=(jR q w).1.bj:=by rw[U,N]
  cases h1:(jR q' w).1 with
  |mk a b c => cases h2 : (jR q w).1 with
   |mk a' b' c'=>simp_all
 exact Prod.ext e1 (by rw[E,z])
end
end Go.Plain
end
section
namespace Go.Plain
open Go.Abs
structure CX where
 st:cz
 q:fo
 P:List dt
 S:List dt
def UY(l:List aL)(id:Int):Nat:=l.findIdx λj=>j.Id == id
def zh(st:cz)(j:aL)(sh:List cU):cz:=FV st (UY st.aj j.Id) j sh
def br(s:bo)(q:fo)(j:aL):dt×Bool:=named j (jR q (ca s j))
def Cx(s:bo)(x:CX)(j:aL):CX:=
 if I_ s x.st.aj j.Id=true then
  if (br s x.q j).2=true then
   if (br s x.q j).1.At > x.q.aT then { st:=x.st,q:=AF x.q (eG j (br s x.q j).1),P:=x.P++[(br s x.q j).1],S:=x.S }
   else { st:=zh x.st j (br s x.q j).1.ae,q:=AF x.q (eG j (br s x.q j).1),P:=x.P,S:=x.S++[(br s x.q j).1] }
  else x
 else x
theorem JS{l:List aL}(hs:cf l){i:Nat}(a:i<l.length):UY l l[i].Id=i:=by unfold UY;have h:l.findIdx (λj=>j.Id == l[i].Id)<l.length:=List.findIdx_lt_length.2 ⟨l[i],bG a,by simp⟩;have:=List.findIdx_getElem (w:=h);simp only[nB] at this;exact hs.inj h a this
structure il (s:bo) (st0:cz) (x:CX) (n:Nat):Prop where
 sound:ba s x.st
 now:x.st.aT=st0.aT
 next:x.st.Next=st0.Next
 book:x.st.eo=st0.eo
 cu:x.st.ay=st0.ay
 use:x.st.oF=st0.oF
 len:x.st.aj.length=st0.aj.length
 bg:∀m (h:m<x.st.aj.length) (h':m<st0.aj.length),x.st.aj[m]=st0.aj[m]∨x.st.aj[m]=kQ st0.aj[m] st0.aT
 ref:iV x.q
 qs:x.q.S=s
 qn:x.q.aT=st0.aT
 qb:x.q.ay=st0.ay
 yg:x.q.L.length<=30+n
 used:∀(k:Nat)(c:Nat),cT x.st.ai k c<=cmp c (aN x.q.L k st0.aT)
 AV:x.P.length+x.S.length<=n
theorem il.up{s:bo}{st0:cz}{x:CX}{n:Nat}(h:il s st0 x n):il s st0 x (n+1):={ h with yg:=by have:=h.yg;omega,AV:=by have:=h.AV;omega }
theorem CB(q:fo)(u:oA)(k t:Int)(c:Nat):cmp c (aN (AF q u).L k t)=cmp c (aN q.L k t)+cmp c (jJ u k t):=by grind [AF,nV,wu]
section
variable{s:bo}{st0:cz}{x:CX}{n:Nat}(I:il s st0 x n)(q0:ba s st0)
include I q0
theorem il.CO{j:aL}(hj:j∈st0.aj)(hm:I_ s x.st.aj j.Id=true):∃m,∃h:m<x.st.aj.length,x.st.aj[m]=j/\j.State=1:=by
 obtain ⟨m,o,e,_,h1⟩:=VI hm;have hl:m<st0.aj.length:=by grind [il.len]
 obtain ⟨i,u,rfl⟩:=iX hj;rcases I.bg m o hl with g | g
 ·rw[g] at e h1;have:=q0.bg.bF.inj hl u e
  grind
 grind [kQ,iE]
end
section
variable{s:bo}{st0:cz}{x:CX}{n:Nat}(I:il s st0 x n)(q0:ba s st0)(hn:n<=30){nodes:List (List bO)}{b:Nat}(hb:b<=200)(hp:PR nodes x.q b){j:aL}(hj:j∈st0.aj)(hm:I_ s x.st.aj j.Id=true)
include I q0 hn hb hp hj hm
structure Eo (s:bo) (x:CX) (j:aL) (m:Nat) (hm:m<x.st.aj.length) (p:dt):Prop where
 cD:x.st.aj[m]=j
 one:x.st.aj[m].State=1
 pp:lV s x.st.aj[m] p.ae
 fits:p.At=x.st.aT->xS (dx s.am x.st.ai) (dN x.st.aj[m] p.ae)
 yb:p.At=x.st.aT->∀y∈p.ae,∀b∈x.st.ay,b.Node=y.Node->¬b.bK<x.st.aT+x.st.aj[m].aU
 id:p.bj=j.Id
 place:wk x.q (ca s j) p.At p.ae
theorem zj(h:(br s x.q j).2=true):∃m,∃hm:m<x.st.aj.length,Eo s x j m hm (br s x.q j).1:=by
 obtain ⟨m,p,e,h1⟩:=I.CO q0 hj hm;have N:=I.qs;have d:=I.sound.bg.each _ (bG p);rw[e] at d;have G:kE x.q.S x.st j:=by simp_all
 have hw:dM x.q (ca s j):=jr (st:=x.st) I.sound.spec N d;have O:(jR x.q (ca s j)).2=true:=by grind [br,named]
 have P:=iw hb I.ref hp hw O;obtain ⟨R,_⟩:=Oc hb I.ref hp G O;have pl:(br s x.q j).1={ bj:=j.Id,At:=(jR x.q (ca s j)).1.At,ae:=(jR x.q (ca s j)).1.ae }:=R;obtain ⟨hq',U,z⟩:=qI (s:=s) (j:=j) ⟨d.ok.queue.1,d.queue⟩;have W:(ca s j).az=j.az:=by rw[z]
 have X:(ca s j).aU=j.aU:=by rw[z]
 have wm:(ca s j).aK=j.aK:=by rw[z]
 have wp:(ca s j).Part=s.aq[j.Queue.toNat].Part:=by rw[z]
 have A:=P.fit;have a:=P.shares;have Y:=P.lo;rw[W,X] at A;rw[N] at a A;have xn:x.q.aT=x.st.aT:=by rw[I.qn,I.now]
 have Q:=d.ok.wall;refine ⟨m,p,e,by simp_all,?_,λr=>?_,λr=>?_,by rw[pl],by simp_all⟩
 ·rw[e,pl];refine ⟨a,by grind [wk.Wb],⟨d.ok.queue.1,d.queue⟩,λy E=>?_⟩;have:=P.part y E
  grind [bX]
 ·rw[e];rw[pl] at r ⊢;dsimp only at r ⊢;intro i F;have g:i<s.am.length:=by grind [eV]
  have Z:=Mv I.sound;refine vC.2 λc=>?_;have l1:=vC.1 (Z _ (bG F)) c;have o:=iq (o_ a i) (vC.1 d.ok.need c);unfold q_;rw[Aq,Bf];show 0<=_-dw (jR x.q (ca s j)).1.ae i * cmp c j.az/\_-dw (jR x.q (ca s j)).1.ae i * cmp c j.az<=1048576;have f:=A i g x.q.aT (by omega) (by omega) c;rw[Bf] at f;have fl:cmp c (bq x.q i x.q.aT)<=cmp c (dx s.am x.st.ai)[i]:=by
   rw[qy g F];have u:=I.used i c;have nv:=vC.1 (I.sound.spec.nodes.ok _ (bG g)) c;unfold bq;split
   ·grind [OE,qy]
   grind [Aq,AB,il.qn]
  omega
 ·rw[e];rw[pl] at r ⊢;dsimp only at r ⊢;intro y E bk v en aa;obtain ⟨i,F,rfl⟩:=iX E;have o:=J_ a F;obtain ⟨y0,y1,y2,y3⟩:=a.mem _ E;have bl:=(I.sound.gM.live _ v).2;obtain ⟨K,M,rfl⟩:=iX v;have b1:=(I.sound.gM.cu.each K M).one;have sp:=b1.span
  let t:=max x.st.aT x.st.ay[K].bK
  have t1:x.st.aT<=t:=by omega
  have t2:t<x.st.aT+j.aU:=by omega
  have hk:((jR x.q (ca s j)).1.ae[i]).Node.toNat<s.am.length:=by omega
  have f:=A _ hk t (by omega) (by omega);rw[yBM y0,o] at f;have mz:Dd x.q.ay ((jR x.q (ca s j)).1.ae[i]).Node t:=⟨x.st.ay[K],by rw[I.qb,<-I.cu];omega,en,by omega,by omega⟩;have fz:bq x.q ((jR x.q (ca s j)).1.ae[i]).Node t=bR:=by unfold bq;grind
  rw[fz] at f;apply d.ok.nU;refine dY λc=>?_;have fc:=f c;rw[Bf,OE] at fc;rw[OE];have n0:=vC.1 d.ok.need c;have:1 * cmp c j.az<=((jR x.q (ca s j)).1.ae[i]).aK * cmp c j.az:=yAO y2 n0.1;omega
end
theorem il.step{s:bo}{st0:cz}{x:CX}{n:Nat}(I:il s st0 x n)(q0:ba s st0)(hn:n<=30){nodes:List (List bO)}{b:Nat}(hb:b<=200)(hp:PR nodes x.q b){j:aL}(hj:j∈st0.aj):il s st0 (Cx s x j) (n+1):=by
 unfold Cx;split
 rotate_left
 ·exact I.up
 rename_i hm;split
 rotate_left
 ·exact I.up
 rename_i z;obtain ⟨m,o,F⟩:=zj I q0 hn hb hp hj hm z;have E:=I.sound.bg.each _ (bG o);have A:=E.ok;rw[F.cD] at E A;have G:kO (eG j (br s x.q j).1) x.q.S.am.length:=LA F.place A I.ref;have K:=Nd I.ref G (by have:=I.yg;omega);have yg:(AF x.q (eG j (br s x.q j).1)).L.length<=30+(n+1):=by have:=I.yg;show (x.q.L++[_]).length<=_;grind
 have O:=F.place.lo;have more:∀k c,cmp c (aN x.q.L k st0.aT)<=cmp c (aN (AF x.q (eG j (br s x.q j).1)).L k st0.aT):=λk c=>by rw[CB];have:=Fs G k st0.aT c;omega
 split
 ·exact { I with
   ref:=K
   qs:=I.qs
   qn:=I.qn
   qb:=I.qb
   yg:=yg
   used:=λk c=>yCd (I.used k c) (more k c)
   AV:=by have:=I.AV;grind }
 ·rename_i Q;have cD:(br s x.q j).1.At=x.st.aT:=by grind [il.qn,il.now]
  have R:UY x.st.aj j.Id=m:=by rw[<-F.cD];exact JS I.sound.bg.bF o
  have U:zh x.st j (br s x.q j).1.ae=FV x.st m x.st.aj[m] (br s x.q j).1.ae:=by unfold zh;rw[R,F.cD]
  have W:=Cg I.sound o F.one F.pp (F.fits cD) (F.yb cD);rw[U];exact {
   sound:=W
   now:=I.now
   next:=I.next
   book:=I.book
   cu:=I.cu
   use:=I.use
   len:=by show (x.st.aj.set m _).length=_;rw[Wu];exact I.len
   bg:=λi h M=>by
    have X:i<x.st.aj.length:=by grind [il.len]
    show (x.st.aj.set m (kQ x.st.aj[m] x.st.aT))[i]'(by simp_all)=_∨(x.st.aj.set m (kQ x.st.aj[m] x.st.aT))[i]'(by simp_all)=_;by_cases g:m=i
    ·subst g;rw[yB7];right;rcases I.bg m o M with g | g
     ·rw[g,I.now]
     grind [Eo.one,kQ,iE]
    ·rw[yB0 g];exact I.bg i X M
   ref:=K
   qs:=I.qs
   qn:=I.qn
   qb:=I.qb
   yg:=yg
   used:=λk c=>by
    show cT (zS x.st.ai (dN x.st.aj[m] (br s x.q j).1.ae)) k c<=_;rw[zr (mC ..),zdE,CB];have u:=I.used k c;have Y:jJ (eG j (br s x.q j).1) k st0.aT=mulR (dw (br s x.q j).1.ae k) j.az:=by
     unfold jJ;have Z:=A.wall;rw[if_pos]
     ·rfl
     ·show (br s x.q j).1.At<=st0.aT/\st0.aT<(br s x.q j).1.At+j.aU
      grind [il.now]
    rw[Y,Bf,F.cD];show dw (br s x.q j).1.ae k * cmp c j.az+_<=_;omega
   AV:=by have:=I.AV;grind }
end Go.Plain
end
section
namespace Go.Plain
open Go.Abs
def zeroH:fx:={ bj:=0,qh:=0,aI:=0 }
def cx0(s:bo)(st:cz):CX:={ st:=st,q:=nC s st,P:=[],S:=[] }
def cC(s:bo)(st:cz)(r:List aL):CX:=r.foldl (Cx s) (cx0 s st)
section
variable{s:bo}{st0:cz}(q0:ba s st0)(h30:st0.aj.length<=30)
include q0 h30
theorem cinv0:il s st0 (cx0 s st0) 0:={
 sound:=q0
 now:=rfl
 next:=rfl
 book:=rfl
 cu:=rfl
 use:=rfl
 len:=rfl
 bg:=λm h f=>.inl rfl
 ref:=JQ (VF q0) q0 h30
 qs:=rfl
 qn:=rfl
 qb:=rfl
 yg:=by
  have:=jv (VF q0) q0;show (st0.ai.map (cF st0)).length<=_
  grind
 used:=λk c=>by
  have hw:=VF q0;show cT st0.ai k c<=cmp c (aN (st0.ai.map (cF st0)) k st0.aT);rw[wQ,Wd];unfold cT;have:∀A:List ce,(∀a∈A,a∈st0.ai)->(A.map λa=>dw a.ae k * cmp c a.az)=A.map ((λu=>cmp c (jJ u k st0.aT))∘cF st0):=λA d=>List.map_congr_left λa e=>by have b:=E_ hw q0 (d a e);show _=cmp c (jJ (cF st0 a) k st0.aT);unfold jJ;rw[if_pos (show (cF st0 a).bK<=st0.aT/\st0.aT<(cF st0 a).To from ⟨Jz _,b.1⟩),Bf];rfl
  grind
 AV:=Px _ }
theorem BI{r:List aL}{i:Nat}(a:i<r.length):cC s st0 (r.take (i+1))=Cx s (cC s st0 (r.take i)) r[i]:=by grind [cC,List.take_succ_eq_append_getElem]
theorem JC{L:List (Int×ce)}(hL:L.Perm (mapA st0.ai)):∃r,zcq 5000 st0.aG.aq st0.aj L s.am s.aF s.aq s.aO s.ah.jb s.ah.cH s.ah.eR s.ah.bB s.bJ s.Mode s.aj s.gU s.aE s.aW s.cP s.In s.Out s.bI st0.aT st0.Next st0.eo st0.ay st0.oF st0.aG.am=some r/\r.Perm (st0.aj.filter (EW st0.aj)) /\
  (∀i,i<=r.length->il s st0 (cC s st0 (r.take i)) i/\∃nodes,PR nodes (cC s st0 (r.take i)).q (93+2 * i)) /\
  ∃ L', zbB 5000 st0.aG.aq st0.aj L s.am s.aF s.aq s.aO s.ah.jb s.ah.cH s.ah.eR s.ah.bB s.bJ s.Mode s.aj s.gU s.aE s.aW s.cP s.In s.Out s.bI st0.aT st0.Next st0.eo st0.ay st0.oF st0.aG.am (dx s.am st0.ai) =
   some ((cC s st0 r).st.aG.aq,(cC s st0 r).st.aj,L',{ Started:=(cC s st0 r).S,dv:=(cC s st0 r).P,Fi:=zeroH },0,(cC s st0 r).st.aG.am,dx s.am (cC s st0 r).st.ai)/\L'.Perm (mapA (cC s st0 r).st.ai):=by
 have hw:=VF q0;have bl:=q0.gM.cu.len;have al:=jv hw q0;obtain ⟨r,er,R⟩:=readyV q0 hL h30;have rl:r.length<=30:=by grind [List.Perm.length_eq,List.length_filter_le]
 have K:∀j∈r,j∈st0.aj:=λj hj=>(SE.1 (R.mem_iff.1 hj)).1;obtain ⟨a,X,d⟩:=qc hw q0 h30 (Bk q0 hL);have u:PR a (nC s st0) 93:=⟨d.len,⟨λk h=>⟨(d.cD.each k h).1,by have:=(d.cD.each k h).2;omega⟩,d.cD.first⟩,d.val⟩;have step:∀i (t:i<r.length) (I:il s st0 (cC s st0 (r.take i)) i) nodes,PR nodes (cC s st0 (r.take i)).q (93+2 * i)->∃nodes',zaI 5000 nodes r[i] st0.aT s.aF s.am s.aF s.aq s.aO s.ah.jb s.ah.cH s.ah.eR s.ah.bB s.bJ s.Mode s.aj s.gU s.aE s.aW s.cP s.In s.Out s.bI =
   (if (br s (cC s st0 (r.take i)).q r[i]).2=true then some (nodes',{ jE:=(br s (cC s st0 (r.take i)).q r[i]).1,dK:=r[i] },true) else some (nodes,XK,false)) /\
   ((br s (cC s st0 (r.take i)).q r[i]).2=true->PR nodes' (AF (cC s st0 (r.take i)).q (eG r[i] (br s (cC s st0 (r.take i)).q r[i]).1)) (93+2 * (i+1))):=λi t I nodes hp=>by
  have ji:=q0.bg.each _ (K _ (bG t));have M:kE (cC s st0 (r.take i)).q.S st0 r[i]:=by grind [il.qs]
  obtain ⟨nodes',e,h⟩:=Ad (by omega) I.ref hp M;rw[I.qs,I.qn] at e;refine ⟨nodes',e,λg=>?_⟩;rw[I.qs] at h;have:(jR (cC s st0 (r.take i)).q (ca s r[i])).2=true:=by grind [br,named]
  have:=h this;rw[show 93+2 * (i+1)=93+2 * i+2 by omega];exact this
 have y:∀i,i<=r.length->il s st0 (cC s st0 (r.take i)) i/\∃nodes,PR nodes (cC s st0 (r.take i)).q (93+2 * i):=by
  intro i;induction i with
  |zero=>intro _;exact ⟨cinv0 q0 h30,a,u⟩
  |succ i ih=>
   intro t;obtain ⟨I,nodes,hp⟩:=ih (by omega);rw[BI q0 h30 (show i<r.length by omega)];refine ⟨I.step q0 (by omega) (by omega) hp (K _ (bG _)),?_⟩;obtain ⟨nodes',_,h⟩:=step i (by omega) I nodes hp;have N:PR nodes (cC s st0 (r.take i)).q (93+2 * (i+1)):=⟨hp.len,⟨λk h=>⟨(hp.cD.each k h).1,by have:=(hp.cD.each k h).2;omega⟩,hp.cD.first⟩,hp.val⟩
   grind [Cx]
 refine ⟨r,er,R,y,?_⟩
 suffices h:bQ (zbB 5000 st0.aG.aq st0.aj L s.am s.aF s.aq s.aO s.ah.jb s.ah.cH s.ah.eR s.ah.bB s.bJ s.Mode s.aj s.gU s.aE s.aW s.cP s.In s.Out s.bI st0.aT st0.Next st0.eo st0.ay st0.oF st0.aG.am (dx s.am st0.ai)) λx=>∃L',x=((cC s st0 r).st.aG.aq,(cC s st0 r).st.aj,L',{ Started:=(cC s st0 r).S,dv:=(cC s st0 r).P,Fi:=zeroH },0,(cC s st0 r).st.aG.am,dx s.am (cC s st0 r).st.ai)/\L'.Perm (mapA (cC s st0 r).st.ai) by obtain ⟨x,e,L',rfl,h⟩:=h;exact ⟨L',e,h⟩
 unfold zbB zcv;rw[X,aD,aD];dsimp only;rw[er,aD];refine iS r.length (λi x=>∃z nodes,x=((i:Int),(cC s st0 (r.take i)).st.aG.am,dx s.am (cC s st0 (r.take i)).st.ai,(cC s st0 (r.take i)).st.aG.aq,(cC s st0 (r.take i)).st.aj,z,nodes,(cC s st0 (r.take i)).P,(cC s st0 (r.take i)).S)/\z.Perm (mapA (cC s st0 (r.take i)).st.ai)/\PR nodes (cC s st0 (r.take i)).q (93+2 * i)) (λi x f t O Y=>?_) (λx f O=>?_)
  ⟨L,a,rfl,hL,u⟩ (by omega)
 ·obtain ⟨z,nodes,rfl,o,hp⟩:=O;obtain ⟨I,_⟩:=y i (by omega);have p:=BI (s:=s) q0 h30 t;have v:=mayV I.sound o r[i].Id;rw[I.now,I.next,I.book,I.cu,I.use] at v;obtain ⟨nodes',A,U⟩:=step i t I nodes hp;have N:PR nodes (cC s st0 (r.take i)).q (93+2 * (i+1)):=⟨hp.len,⟨λk h=>⟨(hp.cD.each k h).1,by have:=(hp.cD.each k h).2;omega⟩,hp.cD.first⟩,hp.val⟩;dsimp only;rw[if_pos (cS t),gB,bZ t,aD,v,aD,bU (show i<1000000 by omega)];unfold Cx at p;rw[bz];refine ⟨λh=>?_,λh=>?_⟩
  ·grind
  ·have hm:I_ s (cC s st0 (r.take i)).st.aj r[i].Id=true:=by grind
   rw[if_pos hm] at p;rw[A];by_cases g:(br s (cC s st0 (r.take i)).q r[i]).2=true
   ·rw[if_pos g] at p;rw[if_pos g,aD,if_neg (by simp)];unfold zdG;rw[aD];have pl:=I.AV;by_cases W:(br s (cC s st0 (r.take i)).q r[i]).1.At > (cC s st0 (r.take i)).q.aT
    ·rw[if_pos W] at p;have Z:(br s (cC s st0 (r.take i)).q r[i]).1.At > st0.aT:=by grind [il.qn]
     rw[if_pos (by grind),zq (by grind),aD]
     grind
    ·rw[if_neg W] at p;have Z:¬(br s (cC s st0 (r.take i)).q r[i]).1.At > st0.aT:=by grind [il.qn]
     obtain ⟨m,E,F⟩:=zj I q0 (by omega) (by omega) hp (K _ (bG t)) hm g;have aa:=F.place.lo;have cD:(br s (cC s st0 (r.take i)).q r[i]).1.At=(cC s st0 (r.take i)).st.aT:=by grind [il.qn,il.now]
     obtain ⟨L',P,hL'⟩:=startV I.sound E F.one F.pp (F.fits cD) o;have ix:UY (cC s st0 (r.take i)).st.aj r[i].Id=m:=by rw[<-F.cD];exact JS I.sound.bg.bF E
     have G:zh (cC s st0 (r.take i)).st r[i] (br s (cC s st0 (r.take i)).q r[i]).1.ae=FV (cC s st0 (r.take i)).st m (cC s st0 (r.take i)).st.aj[m] (br s (cC s st0 (r.take i)).q r[i]).1.ae:=by unfold zh;rw[ix,F.cD]
     rw[<-G,I.now] at P;rw[<-G] at hL';have Q:(cC s st0 (r.take i)).st.aj[m].Id=(br s (cC s st0 (r.take i)).q r[i]).1.bj:=by rw[F.cD,F.id]
     rw[Q] at P;rw[if_neg (by grind),P,aD,if_pos (by rfl),zq (by grind),aD]
     grind
   grind
 ·obtain ⟨z,nodes,rfl,o,hp⟩:=O;dsimp only;rw[if_neg (by simp),a_];rw[uj] at o ⊢;exact ⟨z,rfl,o⟩
end
end Go.Plain
end
section
namespace Go.Plain
open Go.Abs
def fB(UP:List (aL×dt)):List oA:=UP.map λx=>eG x.1 x.2
def Mp(st0:cz):List oA:=st0.ai.map (cF st0)
structure HistP (s:bo) (st0:cz) (US:List oA) (UP:List (aL×dt)) (j:aL) (p:dt):Prop where
 run:∃(q:fo)(USk rest:List oA)(nodes:List (List bO))(b:Nat),US=USk++rest/\q.L.Perm (Mp st0++(USk++fB UP))/\iV q/\PR nodes q b/\b<=200/\q.S=s/\q.aT=st0.aT/\q.ay=st0.ay/\br s q j=(p,true)
 now:p.At > st0.aT
 CO:kE s st0 j
structure MD (s:bo) (st0:cz) (x:CX) (US:List oA) (UP:List (aL×dt)):Prop where
 us:(x.st.ai.map (cF x.st)).Perm (Mp st0++US)
 q:x.q.L.Perm (Mp st0++(US++fB UP))
 P:x.P=UP.map Prod.snd
 bg:∀y∈UP,y.1∈x.st.aj
 IH:∀i (h:i<UP.length),HistP s st0 US (UP.take i) UP[i].1 UP[i].2
theorem pinv0(s:bo)(st0:cz):MD s st0 (cx0 s st0) [] []:={
 us:=by rw[DA];exact List.Perm.refl _
 q:=by show (st0.ai.map (cF st0)).Perm _;simp[fB,Mp]
 P:=rfl
 bg:=λy a=>by cases a
 IH:=λi h=>by cases h }
theorem HX(UP:List (aL×dt))(j:aL)(p:dt):fB (UP++[(j,p)])=fB UP++[eG j p]:=by simp[fB]
section
variable{s:bo}{st:cz}(q:ba s st){k:Nat}(hk:k<st.aj.length)(h1:st.aj[k].State=1){sh:List cU}(q':ba s (FV st k st.aj[k] sh))
include q h1 q'
theorem Rm:((FV st k st.aj[k] sh).ai.map (cF (FV st k st.aj[k] sh))).Perm (st.ai.map (cF st)++[({ bK:=st.aT,To:=st.aT+st.aj[k].aU,az:=st.aj[k].az,ae:=sh }:oA)]):=by
 have hw:=VF q;have cD:∀i (h:i<st.aj.length) (o:i<(FV st k st.aj[k] sh).aj.length),(FV st k st.aj[k] sh).aj[i]=if k=i then kQ st.aj[k] st.aT else st.aj[i]:=λi h o=>by show (st.aj.set k _)[i]'(by simpa using h)=_;rw[List.getElem_set]
 have d:(FV st k st.aj[k] sh).aj.length=st.aj.length:=by show (st.aj.set k _).length=_;simp
 have new:cF (FV st k st.aj[k] sh) (dN st.aj[k] sh)=({ bK:=st.aT,To:=st.aT+st.aj[k].aU,az:=st.aj[k].az,ae:=sh }:oA):=by have e:=EE q'.bg.bF (i:=k) (by rw[d];exact hk);rw[cD k hk (by rw[d];exact hk),if_pos rfl] at e;unfold cF nj;rw[show (dN st.aj[k] sh).bj=(kQ st.aj[k] st.aT).Id from rfl,e];rfl
 have r:∀a∈st.ai,cF (FV st k st.aj[k] sh) a=cF st a:=λa g=>by
  obtain ⟨i,f,m,_,_,t⟩:=mI hw q g;have u:¬k=i:=λe=>by subst e;exact FO q hk h1 a g m.symm
  have e:=EE q'.bg.bF (i:=i) (by rw[d];exact f);rw[cD i f (by rw[d];exact f),if_neg u,m] at e;unfold cF nj;rw[e,t];rfl
 have p:=((mC st.ai (dN st.aj[k] sh)).map (cF (FV st k st.aj[k] sh)));rw[ru,new,List.map_congr_left r] at p;exact p.trans (yBv (l₁:=[_]))
end
section
variable{s:bo}{st0:cz}{x:CX}{n:Nat}(I:il s st0 x n)(q0:ba s st0)(hn:n<=30){nodes:List (List bO)}{b:Nat}(hb:b<=200)(hp:PR nodes x.q b){j:aL}(hj:j∈st0.aj)
include I q0 hn hb hp hj
theorem MD.step{US:List oA}{UP:List (aL×dt)}(T:MD s st0 x US UP)(fresh:∀y∈UP,y.1.Id≠j.Id):∃M E,MD s st0 (Cx s x j) M E/\∀y∈E,y∈UP∨y.1=j:=by
 unfold Cx;by_cases hm:I_ s x.st.aj j.Id=true
 ·rw[if_pos hm];by_cases u:(br s x.q j).2=true
  ·rw[if_pos u];obtain ⟨m,z,F⟩:=zj I q0 hn hb hp hj hm u;have U:=F.place.lo;by_cases A:(br s x.q j).1.At > x.q.aT
   ·rw[if_pos A];refine ⟨US,UP++[(j,(br s x.q j).1)],⟨T.us,?_,?_,?_,?_⟩,λy o=>?_⟩
    ·rw[HX];have:=T.q.append_right [eG j (br s x.q j).1];simp only[xI] at this;exact this
    ·show x.P++[_]=_;rw[T.P,Yb];rfl
    ·intro y o;rcases gp.1 o with o | o
     ·exact T.bg y o
     ·rw[zi] at o;subst o;show j∈x.st.aj;rw[<-F.cD];exact bG z
    ·intro i G;rw[AH,xAi] at G;by_cases g:i<UP.length
     ·have e:(UP++[(j,(br s x.q j).1)])[i]'(by simp;omega)=UP[i]:=yBL g;rw[e,xAj (by omega)];exact T.IH i g
     ·have W:i=UP.length:=by omega
      subst W;have e:(UP++[(j,(br s x.q j).1)])[UP.length]'(by simp)=(j,(br s x.q j).1):=by simp
      rw[e,xAj (by omega),uj];exact ⟨⟨x.q,US,[],nodes,b,by simp,T.q,I.ref,hp,hb,I.qs,I.qn,I.qb,Prod.ext rfl u⟩,by rw[<-I.qn];exact A,q0.bg.each j hj⟩
    ·rcases gp.1 o with o | o
     ·exact .inl o
     ·rw[zi] at o;subst o;exact .inr rfl
   ·rw[if_neg A];have cD:(br s x.q j).1.At=x.st.aT:=by have:=I.qn;have:=I.now;omega
    have X:UY x.st.aj j.Id=m:=by rw[<-F.cD];exact JS I.sound.bg.bF z
    have Q:zh x.st j (br s x.q j).1.ae=FV x.st m x.st.aj[m] (br s x.q j).1.ae:=by unfold zh;rw[X,F.cD]
    have Y:=Cg I.sound z F.one F.pp (F.fits cD) (F.yb cD);have R:=Rm I.sound z F.one Y;have Z:eG j (br s x.q j).1=({ bK:=x.st.aT,To:=x.st.aT+x.st.aj[m].aU,az:=x.st.aj[m].az,ae:=(br s x.q j).1.ae }:oA):=by unfold eG;rw[cD,F.cD]
    rw[<-Z] at R;refine ⟨US++[eG j (br s x.q j).1],UP,⟨?_,?_,T.P,?_,?_⟩,λy o=>.inl o⟩
    ·dsimp only;rw[Q];refine R.trans ?_;rw[<-xI];exact T.us.append_right _
    ·show (x.q.L++[_]).Perm _;refine (T.q.append_right _).trans ?_;simp only[xI];exact yBu _ (yBu _ yBv)
    ·intro y o;dsimp only;rw[Q];show y.1∈x.st.aj.set m _;obtain ⟨i,G,e⟩:=iX (T.bg y o);have ne:m≠i:=λe'=>by
      subst e';have:=fresh y o;rw[<-e,F.cD] at this;exact this rfl
     rw[<-e,KX];exact ⟨i,by simpa using G,by rw[yB0 ne]⟩
    ·intro i G;obtain ⟨⟨q,O,K,nodes',b',e,h⟩,h2,h3⟩:=T.IH i G;exact ⟨⟨q,O,K++[eG j (br s x.q j).1],nodes',b',by rw[e,xI],h⟩,h2,h3⟩
  ·rw[if_neg u];exact ⟨US,UP,T,λy o=>.inl o⟩
 ·rw[if_neg hm];exact ⟨US,UP,T,λy o=>.inl o⟩
end
theorem YJ{s:bo}{st0:cz}(q0:ba s st0)(h30:st0.aj.length<=30){r:List aL}(z:r.length<=30)(p:∀j∈r,j∈st0.aj)(t:(r.map (·.Id)).Nodup)
  (f:∀i,i<=r.length->il s st0 (cC s st0 (r.take i)) i/\∃nodes,PR nodes (cC s st0 (r.take i)).q (93+2 * i)):∀i,i<=r.length->∃US UP,MD s st0 (cC s st0 (r.take i)) US UP/\∀y∈UP,y.1∈r.take i:=by
 intro i;induction i with
 |zero=>intro _;exact ⟨[],[],pinv0 s st0,λy d=>by cases d⟩
 |succ i ih=>
  intro A;obtain ⟨US,UP,T,hm⟩:=ih (by omega);obtain ⟨I,nodes,hp⟩:=f i (by omega);rw[BI q0 h30 (show i<r.length by omega)];have a:i<r.length:=by omega
  obtain ⟨h,m,u,v⟩:=T.step I q0 (by omega) (by omega) hp (p _ (bG a)) λy d e=>by obtain ⟨k,hk,o⟩:=KX.1 (hm y d);rw[BY] at hk;rw[Po] at o;rw[<-o] at e;have:=(List.nodup_iff_pairwise_ne.1 t);have:=yAU.1 this k i (by simpa using (show k<r.length by omega)) (by simpa using a) (by omega);rw[Kk,Kk] at this;exact this e
  refine ⟨h,m,u,λy d=>?_⟩;rw[DC a,gp,zi];rcases v y d with g | g
  ·exact .inl (hm y g)
  ·exact .inr g
end Go.Plain
end
section
namespace Go.Plain
open Go.Abs
theorem fW(c:Nat)(L:List oA)(k t:Int):cmp c (aN L k t)=(L.map λv=>cmp c (jJ v k t)).sum:=wQ L k t c
theorem yT{L M:List oA}(h:L.Perm M)(k t:Int)(c:Nat):cmp c (aN L k t)=cmp c (aN M k t):=by
 rw[fW,fW];have:∀{A B:List Int},A.Perm B->A.sum=B.sum:=λh=>by
  induction h with
  |nil=>rfl
  |cons a _ ih=>rw[List.sum_cons,List.sum_cons,ih]
  |swap a b l=>simp only[List.sum_cons];omega
  |trans _ _ h1 d=>rw[h1,d]
 exact this (h.map _)
theorem jB(L M:List oA)(k t:Int)(c:Nat):cmp c (aN (L++M) k t)=cmp c (aN L k t)+cmp c (aN M k t):=by rw[fW,fW,fW,Yb,List.sum_append]
theorem Ld{M:List oA}{n:Int}(h:∀u∈M,kO u n)(k t:Int)(c:Nat):0<=cmp c (aN M k t):=by
 rw[fW];induction M with
 |nil=>simp
 |cons u M ih=>have h1:=Fs (h u (ql ..)) k t c;have d:=ih λv a=>h v (lI _ a);rw[ru,List.sum_cons];omega
def dh(s:bo)(st:cz)(UP:List (aL×dt)):fo:={ nC s st with L:=(nC s st).L++fB UP }
section
variable{s:bo}{st0:cz}{x:CX}{n:Nat}(I:il s st0 x n)(q0:ba s st0)(hn:n<=30){nodes:List (List bO)}{b:Nat}(hb:b<=200)(hp:PR nodes x.q b)
 {US:List oA} {UP:List (aL×dt)} (T:MD s st0 x US UP)
include I q0 hn hb hp T
theorem Az(A:List (aL×dt)):(dh s x.st A).L.Perm (Mp st0++(US++fB A)):=by show ((x.st.ai.map (cF x.st))++fB A).Perm _;rw[<-xI];exact T.us.append_right _
theorem aag(A:List (aL×dt))(a:∀y∈A,y∈UP):∀u∈(dh s x.st A).L,kO u s.am.length:=λu d=>by
 have h1:=(Az I q0 hn hb hp T A).mem_iff.1 d;have:u∈x.q.L:=T.q.mem_iff.2 (by
  rcases gp.1 h1 with g | g
  ·exact gp.2 (.inl g)
  ·rcases gp.1 g with g | g
   ·exact gp.2 (.inr (gp.2 (.inl g)))
   ·obtain ⟨y,e,rfl⟩:=gD.1 g;exact gp.2 (.inr (gp.2 (.inr (gD.2 ⟨y,a y e,rfl⟩)))))
 have:=I.ref.used u this
 rwa [I.qs] at this
theorem Xl{i:Nat}(Y:i<UP.length){nodes':List (List bO)}{b':Nat}(r:b'<=200)(rf:iV (dh s x.st (UP.take i)))(hp':PR nodes' (dh s x.st (UP.take i)) b'):br s (dh s x.st (UP.take i)) UP[i].1=(UP[i].2,true):=by
 obtain ⟨⟨q,ab,d,o,bk,z,A,hq,h,m,E,Z,F,a⟩,aa,G⟩:=T.IH i Y;generalize hj:UP[i].1=j at *;generalize K:UP[i].2=p at *;have hw:dM q (ca s j):=jr (st:=st0) q0.spec E G;obtain ⟨_,_,ew⟩:=qI (s:=s) (j:=j) ⟨G.ok.queue.1,G.queue⟩;have wn:(ca s j).az=j.az:=by rw[ew]
 have ww:(ca s j).aU=j.aU:=by rw[ew]
 have M:(jR q (ca s j)).2=true:=by
  unfold br named at a;split at a
  ·assumption
  ·simp at a
 have ep:p={ bj:=j.Id,At:=(jR q (ca s j)).1.At,ae:=(jR q (ca s j)).1.ae }:=by unfold br named at a;rw[if_pos M] at a;exact (Dr Prod.fst a).symm
 have N:(dh s x.st (UP.take i)).L.Perm (q.L++d):=by refine (Az I q0 hn hb hp T (UP.take i)).trans ?_;refine List.Perm.trans ?_ (A.append_right d).symm;rw[z];simp only[xI];exact yBu _ (yBu _ yBv)
 have uk:=aag I q0 hn hb hp T (UP.take i) λy O=>OH O;have Q:∀u∈d,kO u s.am.length:=λu R=>uk u (N.mem_iff.2 (gp.2 (.inr R)));have B:Jq q (dh s x.st (UP.take i)):=⟨E.symm,by rw[Z];exact I.now,by rw[F];exact I.cu,λu R=>N.mem_iff.2 (gp.2 (.inl R)),λk t c=>by rw[yT N,jB];have:=Ld Q k t c;omega⟩
 have P:=iw m hq h hw M;have same:=Q_ m r hq rf h hp' hw B M λk hk u u1 u2 c=>by
  have f:=P.fit k hk u u1 u2 c;unfold bq at f ⊢;rw[show (dh s x.st (UP.take i)).ay=q.ay by rw[F];exact I.cu];by_cases g:Dd q.ay k u
  ·rw[if_pos g] at f ⊢;exact f
  ·rw[if_neg g,Aq];have lo:=P.lo;have wl:=hw.wall;have rt:=vC.1 (hp.right k u (by omega) (by rw[I.qs,<-E];exact_mod_cast hk) (by rw[I.qn,<-Z];omega)) c;unfold bq at rt;rw[if_neg (by rw[I.qb,<-F];exact g),Aq,I.qs] at rt;have U:fB UP=fB (UP.take i)++(eG j p::fB (UP.drop (i+1))):=by
    have e:UP=UP.take i++(j,p)::UP.drop (i+1):=by
     conv=>lhs;rw[<-Lw i UP,yB1 Y]
     rw[<-hj,<-K]
    conv=>lhs;rw[e]
    simp[fB]
   have W:∀v∈fB (UP.drop (i+1)),kO v s.am.length:=λv hv=>by
    obtain ⟨y,O,rfl⟩:=gD.1 hv;have:eG y.1 y.2∈x.q.L:=T.q.mem_iff.2 (gp.2 (.inr (gp.2 (.inr (gD.2 ⟨y,yBb O,rfl⟩)))));have:=I.ref.used _ this
    rwa [I.qs] at this
   have X:=yT T.q k u c;have t2:=yT (Az I q0 hn hb hp T (UP.take i)) k u c;have t3:=Ld W k u c;rw[U] at X;rw[jB,jB,jB,show eG j p::fB (UP.drop (i+1))=[eG j p]++fB (UP.drop (i+1)) from rfl,jB] at X;rw[jB,jB] at t2;have one:cmp c (aN [eG j p] k u)=cmp c (mulR (dw (jR q (ca s j)).1.ae k) (ca s j).az):=by rw[fW];simp only[ru,List.map_nil,List.sum_cons,List.sum_nil,Int.add_zero];unfold jJ eG;rw[ep];dsimp only;rw[if_pos ⟨u1,by rw[<-ww];exact u2⟩,wn]
   rw[one] at X;show _<=cmp c (ee s.am k)-cmp c (aN (dh s x.st (UP.take i)).L k u);omega
 have e2:br s (dh s x.st (UP.take i)) j=br s q j:=by unfold br;rw[same]
 rw[e2,a]
end
end Go.Plain
end
section
set_option maxRecDepth 100000
namespace Go.Plain
open Go.Abs
theorem OC:fT 5000=some true:=by kernel_rfl
theorem PL{l:List dt}(hl:l.length<=300)(h:∀p∈l,p.ae.length<=300):zcS 5000 l l=some true:=by
 unfold zcS;rw[if_neg (by simp)];refine bQ.eq (wV l (λ_ _=>True) (λi f a _ d=>?_) (λf _=>?_) (by omega))
 ·have e:zeo 5000 l[i] l[i]=some true:=by
   unfold zeo;rw[if_pos (by simp),Co _ (h _ (bG a)),aD]
  rw[if_pos (cS a),bZ a,aD,aD,e,aD,if_neg (by simp),bU (show i<1000000 by omega)];exact d trivial
 ·simp only[fe,b_,cw,a_]
section
variable{s:bo}{st0:cz}{x:CX}{n:Nat}(I:il s st0 x n)(q0:ba s st0)(hn:n<=30){nodes:List (List bO)}{b:Nat}(hb:b<=200)(hp:PR nodes x.q b)
 {US:List oA} {UP:List (aL×dt)} (T:MD s st0 x US UP)
include I q0 hn hb hp T
theorem JV:UP.length<=30:=by have h1:=I.AV;have a:=Dr List.length T.P;rw[wj] at a;omega
theorem NJ{i:Nat}(o:i<UP.length){nodes':List (List bO)}(g:iV (dh s x.st (UP.take i)))(hp':PR nodes' (dh s x.st (UP.take i)) (93+2 * i)) :
  iV (dh s x.st (UP.take (i+1)))/\UP[i].2.bj=UP[i].1.Id/\UP[i].2.ae.length<=300 /\
  zda 5000 s (dh s x.st (UP.take i)) UP[i].1=some (dh s x.st (UP.take (i+1)),UP[i].2,true) /\
  ∃a,zaI 5000 nodes' UP[i].1 st0.aT s.aF s.am s.aF s.aq s.aO s.ah.jb s.ah.cH s.ah.eR s.ah.bB s.bJ s.Mode s.aj s.gU s.aE s.aW s.cP s.In s.Out s.bI=some (a,{ jE:=UP[i].2,dK:=UP[i].1 },true)/\PR a (dh s x.st (UP.take (i+1))) (93+2 * (i+1)):=by
 have hl:=JV I q0 hn hb hp T;have pl:=Xl I q0 hn hb hp T o (b':=93+2 * i) (by omega) g hp';have r:=(T.IH i o).CO;have N:=(T.IH i o).now;have f:kE (dh s x.st (UP.take i)).S st0 UP[i].1:=r;have ext:AF (dh s x.st (UP.take i)) (eG UP[i].1 UP[i].2)=dh s x.st (UP.take (i+1)):=by unfold AF dh;rw[DC o,show UP[i]=(UP[i].1,UP[i].2) from rfl,HX];simp only[xI]
 obtain ⟨a,e,h⟩:=Ad (by omega) g hp' (st:=st0) f;have d:named UP[i].1 (jR (dh s x.st (UP.take i)) (ca (dh s x.st (UP.take i)).S UP[i].1))=(UP[i].2,true):=pl;have t:(jR (dh s x.st (UP.take i)) (ca (dh s x.st (UP.take i)).S UP[i].1)).2=true:=by
  unfold named at d;split at d
  ·assumption
  ·simp at d
 have hw:=jr (q:=dh s x.st (UP.take i)) q0.spec rfl f;have P:=iw (by omega) g hp' hw t;have u:UP[i].2={ bj:=UP[i].1.Id,At:=(jR (dh s x.st (UP.take i)) (ca (dh s x.st (UP.take i)).S UP[i].1)).1.At,ae:=(jR (dh s x.st (UP.take i)) (ca (dh s x.st (UP.take i)).S UP[i].1)).1.ae }:=by unfold named at d;rw[if_pos t] at d;exact (Dr Prod.fst d).symm
 have F:UP[i].2.At<=1099511627776:=by rw[u];exact P.hi
 have z:wk (dh s x.st (UP.take i)) (ca (dh s x.st (UP.take i)).S UP[i].1) UP[i].2.At UP[i].2.ae:=by rw[u];exact P
 have v:UP[i].2.ae.length<=300:=by have O:=q0.spec.nodes.hi;have h1:=jG z.shares (Int.natCast_nonneg _);have e:(dh s x.st (UP.take i)).S.am.length=s.am.length:=rfl;omega
 have G:=LA z r.ok g;have Q:(dh s x.st (UP.take i)).L.length<=60:=by have h1:=jv (VF I.sound) I.sound;have R:=I.len;show ((x.st.ai.map _)++fB (UP.take i)).length<=60;have U:=I.yg;have W:=T.q.length_eq;have X:=(Az I q0 hn hb hp T (UP.take i)).length_eq;have Y:((dh s x.st (UP.take i)).L).length=((x.st.ai.map (cF x.st))++fB (UP.take i)).length:=rfl;simp only[AH,fB,wj,BY] at *;omega
 have m:=Nd g G (by omega);rw[ext] at m;rw[d] at e h;rw[if_pos rfl] at e;have A:=h t;rw[ext] at A;have K:(dh s x.st (UP.take i)).aT=st0.aT:=I.now;rw[K] at e;refine ⟨m,by rw[u],v,?_,a,e,by rw[show 93+2 * (i+1)=93+2 * i+2 by omega];exact A⟩;obtain ⟨p,M,E,_⟩:=Na (by omega) g hp' (st:=st0) (j:=UP[i].1) f;have y:=zO (by omega) g hp' (st:=st0) (j:=UP[i].1) f;rw[M] at y;simp only[au] at y;rw[y,d] at E;have Z:=r.ok.wall;have n0:=q0.nums.now;unfold zda zbp;rw[show zbX 5000 s (dh s x.st (UP.take i)) UP[i].1=_ from E,aD,if_neg (by simp),FW (by omega),aD,zq (by simp;omega),aD,aD];dsimp only;rw[wr (by omega) (by omega),<-ext];rfl
end
end Go.Plain
end
section
set_option maxRecDepth 100000
namespace Go.Plain
open Go.Abs
theorem FG{α a:Type}(f:α->a)(l:List α)(i:Nat)(d:i<l.length):(l.take (i+1)).map f=(l.take i).map f++[f l[i]]:=by rw[DC d,Yb];rfl
section
variable{s:bo}{st0:cz}{x:CX}{n:Nat}(I:il s st0 x n)(q0:ba s st0)(h30:st0.aj.length<=30)(hn:n<=30){nodes:List (List bO)}{b:Nat}(hb:b<=200)(hp:PR nodes x.q b)
 {US:List oA} {UP:List (aL×dt)} (T:MD s st0 x US UP)
include I q0 h30 hn hb hp T
theorem MW{a:List (List bO)}{L:Nat}(hL:L<=93)(h:PR a (nC s x.st) L):iV (dh s x.st (UP.take 0))/\PR a (dh s x.st (UP.take 0)) (93+2 * 0):=by
 have e:dh s x.st (UP.take 0)=nC s x.st:=by unfold dh;simp[fB]
 rw[e];exact ⟨JQ (VF I.sound) I.sound (by have:=I.len;omega),⟨h.len,⟨λk g=>⟨(h.cD.each k g).1,by have:=(h.cD.each k g).2;omega⟩,h.cD.first⟩,h.val⟩⟩
theorem OR{L':List (Int×ce)}(hL':L'.Perm (mapA x.st.ai)):zc3 5000 (UP.map λy=>y.1.Id) x.st.aG.aq x.st.aj L' s.am s.aF s.aq s.aO s.ah.jb s.ah.cH s.ah.eR s.ah.bB s.bJ s.Mode s.aj s.gU s.aE s.aW s.cP s.In s.Out s.bI st0.aT st0.Next st0.eo st0.ay st0.oF x.st.aG.am=some (UP.map Prod.snd,true):=by
 have hw:=VF I.sound;have N:=JV I q0 hn hb hp T;have O:=jv hw I.sound;have P:=I.len;have Q:=I.sound.gM.cu.len;obtain ⟨a,A,p⟩:=qc hw I.sound (by omega) (Bk I.sound hL');rw[I.now,I.next,I.book,I.cu,I.use] at A;obtain ⟨r,d⟩:=MW I q0 h30 hn hb hp T (by omega) p;unfold zc3 zcv;rw[A,aD,aD];dsimp only;have z:Cs ({ bj:=0,At:=0,ae:=[] }:dt) 0 ((UP.map λy=>y.1.Id).length:Int)=some []:=by unfold Cs;rw[if_pos (by simp;omega)];rfl
 rw[z,aD];refine bQ.eq (iS UP.length (λi y=>∃m,y=((i:Int),m,(UP.take i).map Prod.snd)/\iV (dh s x.st (UP.take i))/\PR m (dh s x.st (UP.take i)) (93+2 * i)) (λi y f o t G=>?_) (λy f t=>?_) ⟨a,rfl,r,d⟩ (by omega))
 ·obtain ⟨m,rfl,E,g⟩:=t;obtain ⟨u,_,_,_,v,e,hp'⟩:=NJ I q0 hn hb hp T o E g;obtain ⟨k,hk,K⟩:=iX (T.bg _ (bG o));have F:=LQ hw.bg I.sound.bg.bF hk (by have:=hw.after _ (bG hk);omega);rw[K] at F;have h:i<(UP.map λy=>y.1.Id).length:=by simpa using o
  have M:aB (UP.map λy=>y.1.Id) (i:Int)=some UP[i].1.Id:=by rw[bZ h,Kk]
  dsimp only;rw[if_pos (cS h),M,aD,F,aD,if_neg (by simp)];dsimp only;rw[e,aD,if_neg (by simp),zq (by simp;omega),aD,bU (show i<1000000 by omega)];exact G _ ⟨v,by rw[FG _ _ _ o],u,hp'⟩
 ·obtain ⟨m,rfl,E,g⟩:=t;dsimp only;rw[if_neg (by simp),a_,uj]
theorem TG:zb7 5000 (UP.map λy=>y.1.Id) s x.st=some (UP.map Prod.snd,true):=by
 have hw:=VF I.sound;have M:=JV I q0 hn hb hp T;have N:=jv hw I.sound;have O:=I.len;have P:=I.sound.gM.cu.len;obtain ⟨a,Q,p⟩:=qc hw I.sound (by omega) (Bk I.sound (List.Perm.refl _));obtain ⟨r,d⟩:=MW I q0 h30 hn hb hp T (by omega) p;unfold zb7;rw[Gf hw I.sound,aD];refine bQ.eq (iS UP.length (λi y=>∃t,y=((i:Int),s.am,s.aF,s.aq,s.aO,s.ah.jb,s.ah.cH,s.ah.eR,s.ah.bB,s.bJ,s.Mode,s.aj,s.gU,s.aE,s.aW,s.cP,s.In,s.Out,s.bI,x.st.aT,(dh s x.st (UP.take i)).L,x.st.ay,(UP.take i).map Prod.snd)/\iV (dh s x.st (UP.take i))/\PR t (dh s x.st (UP.take i)) (93+2 * i)) (λi y f o u G=>?_) (λy f u=>?_) ⟨a,?_,r,d⟩ (by omega))
 ·obtain ⟨t,rfl,A,g⟩:=u;obtain ⟨v,_,_,h,z,_,hp'⟩:=NJ I q0 hn hb hp T o A g;obtain ⟨k,hk,E⟩:=iX (T.bg _ (bG o));have F:=Ou hw.bg I.sound.bg.bF hk;rw[E] at F;have m:i<(UP.map λy=>y.1.Id).length:=by simpa using o
  have K:aB (UP.map λy=>y.1.Id) (i:Int)=some UP[i].1.Id:=by rw[bZ m,Kk]
  dsimp only;rw[if_pos (cS m),K,aD,F,aD,if_neg (by simp),bZ hk,aD,E];rw[show zda 5000 s ({ S:=({ am:=s.am,aF:=s.aF,aq:=s.aq,aO:=s.aO,ah:=({ jb:=s.ah.jb,cH:=s.ah.cH,eR:=s.ah.eR,bB:=s.ah.bB }:HN),bJ:=s.bJ,Mode:=s.Mode,aj:=s.aj,gU:=s.gU,aE:=s.aE,aW:=s.aW,cP:=s.cP,In:=s.In,Out:=s.Out,bI:=s.bI }:bo),aT:=x.st.aT,L:=(dh s x.st (UP.take i)).L,ay:=x.st.ay }:fo) UP[i].1=_ from h,aD];dsimp only;rw[if_neg (by simp),zq (by simp;omega),aD,bU (show i<1000000 by omega)];exact G _ ⟨z,by rw[FG _ _ _ o];rfl,v,hp'⟩
 ·obtain ⟨t,rfl,A,g⟩:=u;dsimp only;rw[if_neg (by simp),a_,uj]
 ·have e:dh s x.st (UP.take 0)=nC s x.st:=by unfold dh;simp[fB]
  rw[e];rfl
end
theorem Gj(w:zdO):zcH 5000 w=some true:=by
 unfold zcH;rw[OC,aD,if_neg (by simp)];obtain ⟨r1,e,h⟩:=few23 w.S w.St;obtain ⟨aa,K,h'⟩:=few30P w.S w.St;rw[e] at K;simp only[au] at K;subst K;rw[e,aD];by_cases hl:(!r1)=true
 ·rw[if_pos hl]
 rw[if_neg hl];simp only[iU,pc] at hl;have hw:=h hl;have h30:=h' hl;by_cases q:ba w.S w.St
 ·rw[TN hw q,aD];obtain ⟨r,er,M,o,L',t,hL'⟩:=JC q h30 (List.Perm.refl (mapA w.St.ai));generalize w.S=s at *;generalize w.St=st at *;dsimp only;have rl:r.length<=30:=by rw[M.length_eq];exact lK (List.length_filter_le _ _) h30
  have rm:∀j∈r,j∈st.aj:=λj hj=>(SE.1 (M.mem_iff.1 hj)).1;have nd:(r.map (·.Id)).Nodup:=by
   have n0:(st.aj.map (·.Id)).Nodup:=by rw[List.nodup_iff_pairwise_ne,yAU];intro i j m hj ab;rw[Kk,Kk];intro e;have:=q.bg.bF.inj (by simpa using m) (by simpa using hj) e;omega
   exact ((M.map (·.Id)).nodup_iff).2 (n0.sublist (List.filter_sublist.map _))
  obtain ⟨US,UP,T,_⟩:=YJ q h30 rl rm nd o r.length (cX _);obtain ⟨I,G,hp⟩:=o r.length (cX _);rw[uj] at T I hp;have ul:=JV I q (by omega) (by omega) hp T;have sh:=Bk I.sound hL';rw[I.now,I.next,I.book,I.cu,I.use] at sh;have e1:=OR I q h30 (by omega) (by omega) hp T hL';have e2:=TG I q h30 (by omega) (by omega) hp T;have N:∀p∈UP.map Prod.snd,p.ae.length<=300:=by
   intro p O;obtain ⟨y,u,rfl⟩:=gD.1 O;obtain ⟨i,m,rfl⟩:=iX u;obtain ⟨⟨Q,R,v,g,bk,_,_,hq,A,E,U,_,_,d⟩,_,Y⟩:=T.IH i m;have W:dM Q (ca s UP[i].1):=jr (st:=st) q.spec U Y;have Z:(jR Q (ca s UP[i].1)).2=true:=by
    unfold br named at d;split at d
    ·assumption
    ·simp at d
   have P:=iw E hq A W Z;unfold br named at d;rw[if_pos Z] at d;have ep:=(Dr Prod.fst d).symm;dsimp only at ep;rw[ep];have h1:=jG P.shares (Int.natCast_nonneg _);have nh:=q.spec.nodes.hi;rw[U] at h1;dsimp only;omega
  rw[if_neg (by simp),show zbB 5000 st.aG.aq st.aj (List.map (λa=>(a.bj,a)) st.ai) s.am s.aF s.aq s.aO s.ah.jb s.ah.cH s.ah.eR s.ah.bB s.bJ s.Mode s.aj s.gU s.aE s.aW s.cP s.In s.Out s.bI st.aT st.Next st.eo st.ay st.oF st.aG.am (dx s.am st.ai)=_ from t,aD];dsimp only;rw[if_neg (by simp),T.P];refine bQ.eq (iS UP.length (λi y=>y=((i:Int),(UP.take i).map λy=>y.1.Id)) (λi y f m u X=>?_) (λy f u=>?_) rfl (by omega))
  ·subst u;have F:i<(UP.map Prod.snd).length:=by simpa using m
   have ea:aB (UP.map Prod.snd) (i:Int)=some UP[i].2:=by rw[bZ F,Kk]
   have nw:=(T.IH i m).now;obtain ⟨⟨Q,R,v,g,bk,_,_,hq,A,E,U,_,_,d⟩,_,Y⟩:=T.IH i m;have ej:UP[i].2.bj=UP[i].1.Id:=by
    unfold br named at d;split at d
    ·exact (Dr (λz=>z.1.bj) d).symm
    ·simp at d
   dsimp only;rw[if_pos (cS F),ea,aD,if_neg (by simp;omega),zq (by simp;omega),aD,bU (show i<1000000 by omega),ej];exact X _ (by rw[FG _ _ _ m])
  ·subst u;dsimp only;rw[if_neg (by simp),uj,e1,aD,sh,aD,e2,aD,if_pos (by simp)];have ps:=PL (l:=UP.map Prod.snd) (by simp;omega) N;dsimp only;rw[ps,aD,if_pos rfl,aD,a_]
 ·rw[VN hw q,aD]
end Go.Plain
end
