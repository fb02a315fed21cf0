/- TyRP, TySN, TySD, TyV1, TyS2, TyV2, TyV3, TyV4, TyV5, TyV8 -/
import Derived.Test.YtdfbphphacpkdaaGreatLawC
import Derived.Test.YtdfbphphacpkdaaGreatLawB
import Derived.KernelRfl
set_option linter.all false
open Go.IntKind (i64 u64)
section
namespace Go.Plain
open Go.Abs
theorem Jt{s:bn}(hs:mY s)(k:bm s):PG 5000 s=some true:=by
 obtain ⟨r,e,h⟩:=qS s hs
 simp_all
theorem Hi(x a b:Int):∃v,Zs 5000 x a b=some v:=by
 unfold Zs;split
 ·simp_all
 ·split <;> exact ⟨_,rfl⟩
theorem Lp(x:Int):∃v,iu 5000 x=some v:=by
 obtain ⟨r,e⟩:=Hi x 0 1099511627776;unfold iu MG
 simp_all
theorem Ul{s:bn}(hs:mY s)(k:bm s)(j:aM)(g:Int)(use:List Int):∃v,Cu 5000 s j g use=some v:=by
 have h:∃v,zH 5000 g j.dB=some v:=by unfold zH;split <;> exact ⟨_,rfl⟩
 obtain ⟨ag,r⟩:=h;obtain ⟨m,t⟩:=Hi j.aK 0 64;unfold Cu xS;rw[Jt hs k,aD,if_neg (by simp)];simp only[fQ,r,t,Option.bind_some];have o:∀q:Int,∃v:Int×Int×Int×Int,(if ((decide (j.cU≥0))&&(decide (j.cU<(use.length:Int))))=true then
    (aB use j.cU).bind λu=>(iu 5000 u).bind λw=>some ((i64.wrap (s.ai.kN * ag)),(i64.wrap (s.ai.cK * m)),(i64.wrap (s.ai.fB * q)),(i64.wrap (s.ai.bI * w)))
   else some ((i64.wrap (s.ai.kN * ag)),(i64.wrap (s.ai.cK * m)),(i64.wrap (s.ai.fB * q)),(i64.wrap (s.ai.bI * 0))))=some v:=λq=>by
  by_cases p:((decide (j.cU≥0))&&(decide (j.cU<(use.length:Int))))=true
  ·have a:=p;simp only[bG,br] at a;obtain ⟨i,e⟩:=FJ (l:=use) a.1 a.2;obtain ⟨f,y⟩:=Lp (use[j.cU.toNat]'i)
   simp_all
  ·rw[if_neg p];simp_all
 by_cases hq:((decide (j.Queue≥0))&&(decide (j.Queue<(s.aq.length:Int))))=true
 ·have d:=hq;simp only[bG,br] at d;obtain ⟨i,e⟩:=FJ (l:=s.aq) d.1 d.2;rw[if_pos hq,e,aD];obtain ⟨v,ev⟩:=o (s.aq[j.Queue.toNat]'i).fB
  simp_all
 ·rw[if_neg hq];obtain ⟨v,ev⟩:=o 0
  simp_all
def TO(s:bn)(n:kj)(j:aM):K3:=(qu 5000 s j n).getD (0,0,0)
theorem keyP_ok{s:bn}(hs:mY s)(k:bm s)(n:kj)(j:aM):qu 5000 s j n=some (TO s n j):=by
 have:∃v,qu 5000 s j n=some v:=by
  obtain ⟨v,e⟩:=Ul hs k j n.aX n.nR;unfold qu
  simp_all
 grind [TO]
theorem UN{s:bn}(hs:mY s)(k:bm s)(n:kj){L:List aM}(hL:∀j∈L,f_ j)(hl:L.length<40) :
  bL (zeS 5000 L s n) λr=>r.Perm L:=by
 unfold zeS;rw[Jt hs k,aD,if_neg (by simp),Sb (by omega),aD];refine ja L.length (λi x=>x=((i:Int),(L.map (TO s n)).take i++List.replicate (L.length-i) (0,0,0))) (λi x f d a g=>?_) (λx f a=>?_) (by simp) (by omega)
 ·subst a;have hl:((L.map (TO s n)).take i).length=i:=by grind
  have e:List.replicate (L.length-i) ((0,0,0):K3)=(0,0,0)::List.replicate (L.length-(i+1)) (0,0,0):=by rw[show L.length-i=(L.length-(i+1))+1 by omega,List.replicate_succ]
  simp only;rw[if_pos (cM d),bW d,aD,keyP_ok hs k,aD,e,dQ (by rw[hl]),aD,jv (by rw[hl]),bT (by omega)]
  grind [List.take_add_one]
 ·subst a;rw[yBA (by simp),yCj,List.replicate_zero,DM];simp only;have z:∀x:aM,EY x 0 (L.length:Int)=some []:=λx=>by
   unfold EY
   grind
  rw[if_neg (by simp),z,aD];refine (Pw (N:=5000) (p:=L.map (TO s n)) (by simp_all) (by omega)).bind λr g=>?_;obtain ⟨hp,w⟩:=g;rw[xw] at hp;have m:r.length=L.length:=by rw[hp.length_eq,q_]
  have o:∀x∈r,0<=x/\x<L.length:=λx a=>by
   have:=QH (p:=L.map (TO s n)) (x:=x) (by grind)
   grind [Sq]
  let J:Int->aM:=λx=>L.getD x.toNat { Id:=0,cU:=0,Queue:=0,aK:=0,ay:=({ bK:=0,Mem:=0,bM:=0,bO:=0 }:aC),aW:=0,aI:=[],State:=0,Ok:=false,dw:=false,aO:=0,dB:=0,Start:=0,End:=0,Array:=0 }
  have t:∀x∈r,aB L x=some (J x):=λx a=>by grind [FJ]
  refine ja r.length (λi x=>x=((i:Int),(r.map J).take i)) (λi x f d a g=>?_) (λx f a=>?_) (by simp) (by omega)
  ·subst a;have u:f_ (J r[i]):=by
    grind [FJ]
   simp only;rw[if_pos (cM d),bW d,aD,t _ (bE d),aD];have v:zaC 5000 (J r[i]).aI=some (J r[i]).aI:=Ft (by grind [f_.mf]);rw[v,aD,Ap (by grind),aD,bT (by omega)];refine g _ (by rw[List.take_add_one,eH (by grind)];simp)
  ·subst a;simp only;rw[if_neg (by simp),aY,yBA (by simp)];have h:(SL L.length).map J=L:=by
    apply yBW
    ·simp[SL]
    grind [SL]
   grind
section
variable{l:List aM}(hl:l.length<=300)(hs:b_ l)
def DepP(l:List aM)(d:dS):Prop:=∃j∈l,j.Id=d.bj/\(j.State=5∨j.State=6)/\(d.Ok=true->j.State=5/\j.Ok=true)
include hl in
theorem find_d(id:Int):bL (vY 5000 id l) λr=>(r.2=false/\∀j∈l,j.Id≠id)∨∃(i:Nat)(h:i<l.length),l[i].Id=id/\r=(l[i],true):=by
 unfold vY;refine xq l (λ_ j=>j.Id≠id) (λi f h _ a=>?_) (λf h=>?_) (by omega)
 ·simp only[cM h,if_true,bW h,Option.bind_some,bT (show i<1000000 by omega),bo,aY,my]
  grind
 ·simp only[eU,bX,cn,aY];exact .inl ⟨trivial,Cy (A:=λ(j:aM)=>j.Id≠id) h⟩
include hl hs in
theorem Vo{d:dS}{i:Nat}(a:i<l.length)(e:l[i].Id=d.bj):DepP l d↔(l[i].State=5∨l[i].State=6)/\(d.Ok=true->l[i].State=5/\l[i].Ok=true):=by
 constructor
 ·rintro ⟨j,hj,h1,h2,h3⟩;obtain ⟨t,f,rfl⟩:=km hj;have:=hs.inj f a (h1.trans e.symm)
  simp_all
 ·rintro ⟨h2,h3⟩;exact ⟨l[i],bE a,e,h2,h3⟩
include hl hs in
theorem met_ok{j:aM}(u:j.aI.length<=10):fY (pU 5000 j l) (∀d∈j.aI,DepP l d):=by
 unfold pU;refine NZ j.aI (DepP l) _ (λh=>h) (λi f g Q h1 m=>?_) (λf h=>?_) (by omega)
 ·rw[if_pos (cM g),bW g,aD];refine (find_d hl _).bind λr a=>?_;rw[fQ];rcases a with ⟨a,hn⟩ | ⟨t,o,e,rfl⟩
  ·rw[if_pos (by simp[a])];show bL (if true=true then _ else _) _;rw[if_pos rfl,aY];exact m λ⟨j,hj,e,_⟩=>hn j hj e
  ·have p:=Vo hl hs o e;unfold Dm UT;simp only[Option.bind_some];rw[if_neg (by simp),bT (show i<1000000 by omega)]
   grind [aY]
 ·simp only[eU,bX,cn];exact se h
def DZ(l:List aM)(j:aM):Bool:=(j.State == 1)&&(pU 5000 j l).getD false
theorem Wt{T:Type}(st:T->Int)(met:T->Option Bool):∀l:List T,(∀a∈l,∃b,met a=some b)->DI st met l=some (l.filter λa=>(st a == 1)&&(met a).getD false)
 |[],_=>rfl
 |a :: l, h => by
  have ih:=Wt st met l λx d=>h x (oD _ d);obtain ⟨b,e⟩:=h a (rX ..);unfold DI
  grind
include hl hs in
theorem Rv(d:∀j∈l,j.aI.length<=10):ff 5000 l=some (l.filter (DZ l)):=by unfold ff Zo;rw[show Nat.ble l.length 1000000=true from Nat.ble_eq▸(by omega)];exact Wt _ _ l λa h=>by obtain ⟨b,e,_⟩:=met_ok hl hs (d a h);simp_all
end
theorem Sv{R:Type}{K:List aM->Option R}:∀(r d:List aM),d.length+r.length<=1000 ->
  ZC (λ(e:aM) (f:List aM) g=>
  (cr f ([e]:List aM)).bind λi=>
  g i) K r d=K (d++r)
 |[],d,_=>by simp[ZC]
 |a :: r, d, h => by simp only[List.length_cons] at h;unfold ZC;rw[Ap (by grind),aD,Sv r _ (by grind)];simp
theorem Kd{R:Type}{b:(Int×Int->Option R)->Int×Int->Option R}{Q:R->Prop}{l:List aM}(hl:l.length<=300)(P:aM->Bool)
  (hs:∀f (c i:Nat) (h:i<l.length),c<=i->bL (f (((if P l[i] then c+1 else c:Nat):Int),((i+1:Nat):Int))) Q->bL (b f ((c:Int),(i:Int))) Q)
  (g:∀f,bL (b f ((l.countP P:Int),(l.length:Int))) Q):bL (bB b 5000 (0,0)) Q:=by
 refine ja l.length (λi x=>x=(((l.take i).countP P:Int),(i:Int))) (λi x f d a e=>?_) (λx f a=>?_) (by simp) (by omega)
 ·subst a;refine hs f _ i d (lA List.countP_le_length (by grind)) (e _ ?_)
  grind [List.take_add_one]
 simp_all
def hasB(x:Int):Bool:=(x == 3) || (x == 4)
theorem TW{l:List aM}(hl:l.length<=300)(q:Int):lw 5000 l q=some (l.countP λj=>(j.Queue == q)&&hasB j.State:Int):=by
 unfold lw;apply bL.eq;rw[jD];refine Kd hl (λj=>(j.Queue == q)&&hasB j.State) (λf c i a e d=>?_) (λf=>?_)
 ·simp only[fQ];rw[if_pos (cM a),bW a,aD,bT (show i<1000000 by omega),bT (show c<1000000 by omega)];unfold eo;by_cases h:(l[i].Queue == q)=true
  ·rw[if_pos h,aD,aD];simp only[h,yCm] at d;show bL (if hasB l[i].State=true then _ else _) _
   grind
  simp_all
 ·simp only;rw[if_neg (by simp),aY,aY]
theorem of_eq{l:List aM}(hl:l.length<=300)(q u:Int):zE 5000 l q u=some (l.countP λj=>((j.Queue == q)&&(j.cU == u))&&hasB j.State:Int):=by
 unfold zE;apply bL.eq;rw[jD];refine Kd hl (λj=>((j.Queue == q)&&(j.cU == u))&&hasB j.State) (λf c i a e d=>?_) (λf=>?_)
 ·simp only[fQ];rw[if_pos (cM a),bW a,aD,bT (show i<1000000 by omega),bT (show c<1000000 by omega)];unfold eo;by_cases h:((l[i].Queue == q)&&(l[i].cU == u))=true
  ·rw[if_pos h,aD,aD];simp only[h,yCm] at d;show bL (if hasB l[i].State=true then _ else _) _
   grind
  grind
 ·simp only;rw[if_neg (by simp),aY,aY]
theorem Fp{s:bn}(hs:mY s)(k:bm s){l:List aM}(hl:l.length<=300)(j:aM):∃b,lX 5000 s l j=some b:=by
 unfold lX uk;by_cases hq:0<=j.Queue/\j.Queue<s.aq.length
 ·obtain ⟨a,e⟩:=FJ (l:=s.aq) hq.1 hq.2;rw[if_pos (by simp_all),Jt hs k,aD,aD,if_neg (by simp),e,aD,TW hl,aD,of_eq hl,aD];split <;> exact ⟨_,rfl⟩
 ·rw[if_neg (by simp_all),aD,if_pos (by simp)]
  simp_all
end Go.Plain
end
section
namespace Go.Plain
open Go.Abs
theorem eK{F:List aC}{A:List ca}:(dj F A).length=F.length:=by
 induction A generalizing F with
 |nil=>rfl
 |cons a A ih=>have:=ih (F:=kP F a);rw[Zz] at this;exact this
theorem ql{A:List ca}:∀{F:List aC}{i:Nat}(h:i<F.length)(d:i<(dj F A).length)(c:Nat),cmp c (dj F A)[i]=cmp c F[i]-cI A i c:=by
 induction A with
 |nil=>grind [dj,cI]
 |cons a A ih=>
  intro F i h d c;have hl:i<(kP F a).length:=by grind [Zz]
  have:=ih (F:=kP F a) hl (by grind [eK]) c;rw[mI,pV,B_,AP] at this;rw[ZE];have e:(dj F (a::A))[i]=(dj (kP F a) A)[i]'(by grind):=rfl
  grind
def others(A:List ca)(id:Int):List ca:=A.filter λb=>decide (b.bj≠id)
def y_(x what:Int):Option Int:=
 if what=1/\x=1 then some 2 else if what=2/\x=2 then some 1 else if what=3/\x=1 then some 3 else if what=4/\x=3 then some 1 else if what=5/\x=3 then some 4 else if what=6/\x=3 then some 4
 else if what=6/\DF x then some 6 else if what=7/\(x=3∨x=4) then some 5 else if what=8/\x=4 then some 6 else none
theorem SS(x what:Int):vS 5000 x what=some ((y_ x what).getD 0,(y_ x what).isSome):=by
 unfold vS y_;simp only[fQ,Pg,eo,Option.bind_some,bG,my];by_cases h1:what=1/\x=1
 ·simp_all
 rw[if_neg h1,if_neg h1];by_cases a:what=2/\x=2
 ·simp_all
 rw[if_neg a,if_neg a];by_cases d:what=3/\x=1
 ·simp_all
 rw[if_neg d,if_neg d]
 grind
def HasS(x:Int):Prop:=x=3∨x=4
instance (x:Int):Decidable (HasS x):=by unfold HasS;infer_instance
def nC(x:Int):Prop:=x=5∨x=6
instance (x:Int):Decidable (nC x):=by unfold nC;infer_instance
theorem TY(x:Int):UT 5000 x=some (decide (nC x)):=by unfold UT;congr 1;rw[Bool.eq_iff_iff];rw[br];simp only[gp,my,nC]
def gH (j:aM) (what a:Int) (ok:Bool) (ns:Int):aM:=
  { j with
    State:=ns
    aO:=j.aO+1
    Ok:=if what=5 then ok else if what=6∨what=8∨what=7∧j.State=3 then false else j.Ok
    dw:=if what=6 then true else if what=7 then false else j.dw
    Start:=if what=3 then a else if what=4 then 0 else j.Start
    End:=if nC ns then a else j.End }
theorem O_{j:aM}(h:f_ j){what i:Int}(hn:0<=i/\i<=1099511627776)(ok:Bool){ns:Int}(hs:y_ j.State what=some ns)(A:j.aO<281474976710656):f_ (gH j what i ok ns):=by
 have p:=h.version;have r:=h.start;have t:=h.fin;have u:=h.state.start;have v:=h.state.fin;have w:=h.state.ok;have y:=h.state.kill;have g:(what=1/\j.State=1/\ns=2)∨(what=2/\j.State=2/\ns=1)∨(what=3/\j.State=1/\ns=3)∨(what=4/\j.State=3/\ns=1)∨(what=5/\j.State=3/\ns=4)∨(what=6/\j.State=3/\ns=4)∨(what=6/\DF j.State/\ns=6)∨(what=7/\(j.State=3∨j.State=4)/\ns=5)∨(what=8/\j.State=4/\ns=6):=by
  unfold y_ at hs;split at hs
  ·simp_all
  split at hs
  ·simp_all
  split at hs
  ·simp_all
  split at hs
  ·simp_all
  split at hs
  ·simp_all
  split at hs
  ·simp_all
  grind
 have f:j.State<4->j.Ok=false:=λm=>by grind
 have d:j.State<4->j.dw=false:=λm=>by grind
 have o:DF j.State->j.State<3:=λz=>by rcases z with e | e <;> omega
 refine ⟨h.id,h.user,h.queue,h.many,h.need,h.uM,h.wall,h.mf,h.after,by grind [gH],h.born,?_,?_,h.arr,?_⟩
 ·simp only[gH];omega
 ·simp only[gH];omega
 ·have st0:j.State<3->j.Start=0:=λm=>yBU λq=>by omega
  have a:j.State<5->j.End=0:=λm=>yBU λq=>by omega
  rcases g with ⟨rfl,e,rfl⟩ | ⟨rfl,e,rfl⟩ | ⟨rfl,e,rfl⟩ | ⟨rfl,e,rfl⟩ | ⟨rfl,e,rfl⟩ | ⟨rfl,e,rfl⟩ | ⟨rfl,e,rfl⟩ | ⟨rfl,e,rfl⟩ | ⟨rfl,e,rfl⟩
  ·constructor <;> simp[gH,nC,f (by omega),d (by omega),st0 (by omega),a (by omega)]
  ·constructor <;> simp[gH,nC,f (by omega),d (by omega),st0 (by omega),a (by omega)]
  ·constructor <;> simp[gH,nC,f (by omega),d (by omega),st0 (by omega),a (by omega)]
  ·constructor <;> simp[gH,nC,f (by omega),d (by omega),a (by omega)]
  ·constructor <;> simp[gH,nC,d (by omega),a (by omega)]
  ·constructor <;> simp[gH,nC,a (by omega)]
  ·have:=o e;constructor <;> simp[gH,nC,f (by omega),d (by omega),st0 (by omega),a (by omega)]
  ·constructor <;> simp[gH,nC]
  ·constructor <;> simp[gH,nC]
theorem VZ{j:aM}(h:f_ j){what a:Int}(hn:0<=a/\a<=1099511627776)(ok:Bool) :
  bL (uL 5000 j what a ok) λr=>(r.2≠0/\(y_ j.State what=none∨j.aO=281474976710656))∨∃ns,y_ j.State what=some ns/\j.aO<281474976710656/\r=(gH j what a ok ns,0):=by
 have e:=h.version;have m:=h.mf;unfold uL;dsimp only[fQ];rw[uE h,aD,if_neg (by simp)];simp only[ND,Option.bind_some];rw[if_neg (by simp_all),SS,aD];cases hs:y_ j.State what with
 |none=>rw[if_pos (by simp),aY];simp_all
 |some ns=>
  dsimp only[Option.isSome,Option.getD];rw[if_neg (by simp),bo];refine ⟨λf=>by grind [aY],λf=>?_⟩;simp only[my] at f;rw[show zaC 5000 j.aI=some j.aI from Ft (by omega),aD,wr (x:=j.aO+1) (by omega) (by omega)];simp only[TY,Option.bind_some,my,IX,ne_eq,iF,br];have fin:∀(o k:Bool)(t:Int),o=(if what=5 then ok else if what=6∨what=8∨what=7/\j.State=3 then false else j.Ok)->k=(if what=6 then true else if what=7 then false else j.dw)->t=(if what=3 then a else if what=4 then 0 else j.Start) ->
    bL (if nC ns then some (({ Id:=j.Id,cU:=j.cU,Queue:=j.Queue,aK:=j.aK,ay:=j.ay,aW:=j.aW,aI:=j.aI,State:=ns,Ok:=o,dw:=k,aO:=j.aO+1,dB:=j.dB,Start:=t,End:=a,Array:=j.Array }:aM),(0:Int)) else some (({ Id:=j.Id,cU:=j.cU,Queue:=j.Queue,aK:=j.aK,ay:=j.ay,aW:=j.aW,aI:=j.aI,State:=ns,Ok:=o,dw:=k,aO:=j.aO+1,dB:=j.dB,Start:=t,End:=j.End,Array:=j.Array }:aM),(0:Int)))
     λr=>(r.2≠0/\((some ns:Option Int)=none∨j.aO=281474976710656))∨∃d,(some ns:Option Int)=some d/\j.aO<281474976710656/\r=(gH j what a ok d,0):=λo k t g hk i=>by
   subst g hk i;rw[bo];refine ⟨λq=>?_,λq=>?_⟩ <;> rw[aY] <;> refine .inr ⟨ns,rfl,by omega,?_⟩ <;> simp only[gH,q,if_true,cn]
  grind
structure AS (st:cw) (F:List aC):Prop where
 KM:Aa F.length st.ah
 yL:F.length<=300
 XT:∀r∈F,aL r
 nodes:0<=st.aE.am
 now:0<=st.aX/\st.aX<=1099511627776
theorem good_of{s:bn}{st:cw}(q:bx s st):Aa s.am.length st.ah:=λa d=>by obtain ⟨j,hj,P⟩:=q.cf.mem a d;exact ⟨P.qB.shares,by rw[P.need];exact (q.bp.each j hj).ok.need⟩
theorem Mw{s:bn}{st:cw}(q:bx s st):∀r∈dj s.am st.ah,aL r:=λr a=>by
 obtain ⟨i,d,rfl⟩:=km a;have hn:i<s.am.length:=by grind [eK]
 refine vB.2 λc=>?_;rw[ql hn d c];have h1:=(oP q.cf q.spec.nodes.ok).2 i hn c;have e:=vN (good_of q) i c;have f:=vB.1 (q.spec.nodes.ok _ (bE hn)) c;omega
end Go.Plain
end
section
namespace Go.Plain
open Go.Abs
variable{s:bn}{st st':cw}
theorem np.up{j:aM}(h:np s st j)(o:st.Next<=st'.Next)(i:st'.aX=st.aX):np s st' j:=
 ⟨h.ok,by have:=h.next;omega,h.user,h.queue,by rw[i];exact h.born,by rw[i];exact h.start,by rw[i];exact h.fin,h.version⟩
theorem eW.up{j:aM}{a:ca}(h:eW s st j a)(e:st'.aX=st.aX):eW s st' j a:=⟨h.Eo,h.need,h.qB,by rw[e];exact h.now⟩
theorem mem_set{l:List aM}{k:Nat}{j x:aM}(h:x∈l.set k j):x=j∨x∈l:=by grind
theorem idsC{l:List aM}{k:Nat}(hk:k<l.length){j:aM}(e:j.Id=l[k].Id){d:Int}(h:∃i∈l,i.Id=d):∃i∈l.set k j,i.Id=d:=by grind [List.mem_iff_getElem]
theorem Lm{l:List aM}(hs:b_ l){k:Nat}(hk:k<l.length){j x:aM}(h:x∈l.set k j):x=j∨x∈l/\x.Id≠l[k].Id:=by
 obtain ⟨m,hm,rfl⟩:=km h;rw[W_] at hm;by_cases c:k=m
 ·simp_all
 ·rw[yB9 c];exact .inr ⟨bE _,λe=>c (hs.inj hm hk e).symm⟩
structure YL (s:bn) (st:cw) (o j:aM):Prop where
 id:j.Id=o.Id
 NN:np s st j
 fits:j.State<5->iZ 5000 s j.Queue j.aK j.ay=some true
 after:j.aI=o.aI
 live:j.State<5->o.State<5
theorem YL.waits{k:Nat}(hk:k<st.aj.length){j:aM}(r:YL s st st.aj[k] j)(q:bx s st)(e:st'.aj=st.aj.set k j):∀x∈st'.aj,GN s st' x:=by
 intro x o hs;rw[e] at o;have up:∀d,(∃i∈st.aj,i.Id=d)->∃i∈st'.aj,i.Id=d:=λd h=>by rw[e];exact idsC hk r.id h
 rcases mem_set o with rfl | o
 ·refine ⟨r.fits hs,λd hd=>up _ ?_⟩;rw[r.after] at hd;exact (q.waits _ (bE hk) (r.live hs)).after d hd
 ·have:=q.waits x o hs;exact ⟨this.fits,λd hd=>up _ (this.after d hd)⟩
theorem YL.bp{k:Nat}(hk:k<st.aj.length){j:aM}(r:YL s st st.aj[k] j)(q:bx s st)(e:st'.aj=st.aj.set k j)(u:st'.Next=st.Next)(o:st'.aX=st.aX):dt s st':=by
 refine ⟨by rw[e,W_];exact q.bp.len,λx i=>?_,by rw[e];exact Oz q.bp.bV hk r.id⟩;rw[e] at i;rcases mem_set i with rfl | i
 ·exact r.NN.up (by omega) o
 ·exact (q.bp.each x i).up (by omega) o
theorem asc_at{A:List ca}(h:zU A):∀i (a:i<A.length),∀m (h:m<A.length),m+1=i->A[m].bj<A[i].bj:=λi a m hm e=>by
 have:=yAZ.1 h m i (by simp_all) (by simp_all) (by omega)
 simp_all
end Go.Plain
end
section
namespace Go.Plain
open Go.Abs
theorem Mc{α:Type}{L:List (Int×α)}(hn:(L.map Prod.fst).Nodup){k:Int}{a:α}(h:(k,a)∈L):cE L k=some a:=by
 induction L with
 |nil=>cases h
 |cons p L ih=>
  obtain ⟨d,e⟩:=p;rw[tn,List.nodup_cons] at hn;simp only[cE]
  grind
theorem Hp{α:Type}{L:List (Int×α)}{k:Int}{a:α}(h:cE L k=some a):(k,a)∈L:=by
 induction L with
 |nil=>simp[cE] at h
 |cons p L ih=>grind [Go.Abs.cE]
theorem Hl{α:Type}{L M:List (Int×α)}(h:L.Perm M)(hn:(M.map Prod.fst).Nodup)(k:Int):cE L k=cE M k:=by
 have d:(L.map Prod.fst).Nodup:=((h.map Prod.fst).nodup_iff).2 hn;cases hl:cE L k with
 |some a=>grind [Mc,Hp]
 |none=>
  cases hm:cE M k with
  |none=>rfl
  |some a=>grind [Mc,Hp]
theorem YP{L:List (Int×ca)}{A:List ca}(h:L.Perm (mapA A))(a:zU A):aU 5000 L=aU 5000 (mapA A):=by
 have d:((mapA A).map Prod.fst).Nodup:=by
  have e:(mapA A).map Prod.fst=A.map (·.bj):=by simp[mapA]
  rw[e];exact a.imp λh=>by omega
 have f:zt (λk=>k) L=zt (λk=>k) (mapA A):=by
  unfold zt;have c:(L.length<=1000000/\(L.map Prod.fst).Nodup/\∀p∈L,(Lit.int .i64 p.1).wf=true)↔((mapA A).length<=1000000/\((mapA A).map Prod.fst).Nodup/\∀p∈mapA A,(Lit.int .i64 p.1).wf=true):=by grind [List.Perm.length_eq]
  by_cases g:(L.length<=1000000/\(L.map Prod.fst).Nodup/\∀p∈L,(Lit.int .i64 p.1).wf=true)
  ·rw[if_pos g,if_pos (c.1 g)]
   grind [Go.mergeSort_of_perm_i]
  grind
 grind [Go.Abs.aU,Hl]
section
variable{s:bn}{st:cw}(q:bx s st){L:List (Int×ca)}(hL:L.Perm (mapA st.ah))
include q hL
theorem PP:UU 5000 st.aE.aq st.aj L st.aX st.Next st.dV st.az st.nR st.aE.am=some st:=by have a:=zdg q;have:=VU (Xc a q);unfold UU at this ⊢;rw[YP hL (AF q)];exact this
omit hL in
theorem GD{a b:aM}(d:a∈st.aj)(hb:b∈st.aj)(h:a.Id=b.Id):a=b:=by
 obtain ⟨i,e,rfl⟩:=km d;obtain ⟨j,hj,rfl⟩:=km hb;have:=q.bp.bV.inj e hj h
 simp_all
theorem readyV(h30:st.aj.length<=30):∃r,zbo 5000 st.aE.aq st.aj L s.am s.aG s.aq s.aR s.ai.kN s.ai.cK s.ai.fB s.ai.bI s.bR s.Mode s.aj s.jX s.aF s.bg s.cX s.In s.Out s.bQ st.aX st.Next st.dV st.az st.nR st.aE.am=some r/\r.Perm (st.aj.filter (DZ st.aj)):=by have a:=zdg q;have hl:=a.bp;have e:∀j∈st.aj.filter (DZ st.aj),f_ j:=λj hj=>(q.bp.each j (QN.1 hj).1).ok;have d:(st.aj.filter (DZ st.aj)).length<=30:=lA (List.length_filter_le _ _) h30;obtain ⟨r,f,hp⟩:=UN a.spec q.spec { aX:=st.aX,nR:=st.nR } e (by omega);refine ⟨r,?_,hp⟩;unfold zbo;rw[PP q hL,aD,Rv hl q.bp.bV a.after,aD,Sv _ _ (by grind),xAb,nh a.spec,aD,f];rfl
end
def rR(s:bn)(l:List aM)(id:Int):Bool:=match l.find? λj=>j.Id == id with
 |some j=>DZ l j&&(lX 5000 s l j).getD false
 |none=>false
theorem find_ix{l:List aM}(hs:b_ l){i:Nat}(a:i<l.length):(l.find? λj=>j.Id == l[i].Id)=some l[i]:=by
 cases h:l.find? (λj=>j.Id == l[i].Id) with
 |none=>
  have:=List.find?_eq_none.1 h _ (bE a)
  simp_all
 |some j=>
  have h1:=List.find?_some h;simp only[my] at h1;obtain ⟨k,hk,rfl⟩:=km (yBh h);have:=hs.inj hk a h1
  simp_all
theorem UE{s:bn}{l:List aM}{id:Int}(h:rR s l id=true):∃i,∃a:i<l.length,l[i].Id=id/\DZ l l[i]=true/\l[i].State=1:=by
 unfold rR at h;cases e:l.find? (λj=>j.Id == id) with
 |none=>simp_all
 |some j=>
  rw[e] at h;simp only[bG] at h;have h1:=List.find?_some e;simp only[my] at h1;obtain ⟨i,a,rfl⟩:=km (yBh e);refine ⟨i,a,h1,h.1,?_⟩;have:=h.1;unfold DZ at this
  simp_all
theorem Zf(s:bn)(l:List aM){K:aM->Option Bool}(id:Int):∀r:List aM,ZC (λ(d:aM) (e:Unit) f=>if (d.Id == id)=true then K d else f ()) (λ(e:Unit)=>some false) r ()=match r.find? λj=>j.Id == id with
  |some j=>K j
  |none=>some false
 |[]=>rfl
 |a :: r => by
  unfold ZC;rw[List.find?_cons];cases h:(a.Id == id) with
  |true=>simp_all
  |false=>rw[if_neg (by simp)];exact Zf s l id r
theorem mayV{s:bn}{st:cw}(q:bx s st){L:List (Int×ca)}(hL:L.Perm (mapA st.ah))(id:Int) :
  zcq 5000 st.aE.aq st.aj L id s.am s.aG s.aq s.aR s.ai.kN s.ai.cK s.ai.fB s.ai.bI s.bR s.Mode s.aj s.jX s.aF s.bg s.cX s.In s.Out s.bQ st.aX st.Next st.dV st.az st.nR st.aE.am=some (rR s st.aj id):=by
 have a:=zdg q;have hl:=a.bp;unfold zcq;rw[PP q hL,aD,Rv hl q.bp.bV a.after,aD];refine (Zf s st.aj (K:=λd=>(zaM 5000 s.am s.aG s.aq s.aR s.ai.kN s.ai.cK s.ai.fB s.ai.bI s.bR s.Mode s.aj s.jX s.aF s.bg s.cX s.In s.Out s.bQ).bind λf=>(lX 5000 f st.aj d).bind λg=>some g) id _).trans ?_;have h:∀j∈st.aj,j.Id=id->∀x∈st.aj,x.Id=id->x=j:=λj hj e x i m=>GD q i hj (m.trans e.symm);unfold rR;cases e:st.aj.find? (λj=>j.Id == id) with
 |none=>grind
 |some j=>
  have h1:=List.find?_some e;simp only[my] at h1;have hj:=yBh e;obtain ⟨b,o⟩:=Fp a.spec q.spec hl j;by_cases r:DZ st.aj j=true
  ·have:(st.aj.filter (DZ st.aj)).find? (λj=>j.Id == id)=some j:=by
    cases p:(st.aj.filter (DZ st.aj)).find? (λj=>j.Id == id) with
    |none=>simp_all
    |some x=>grind
   grind [nh,lF.spec]
  grind
end Go.Plain
end
section
namespace Go.Plain
open Go.Abs
section
variable{l:List aM}
theorem set_ok(hl:l.length<=300)(hs:b_ l){k:Nat}(hk:k<l.length){j:aM}(hj:f_ j)(a:j.Id=l[k].Id):zcN 5000 l j=some (l.set k j,0):=by have:=hj.mf;unfold zcN;rw[uE hj,aD,if_neg (by simp),a,GQ hl hs hk,aD];dsimp only;rw[if_neg (by simp),Ct (by omega),aD,bW hk,aD,xAc]
theorem OU(hl:l.length<=300)(hs:b_ l){k:Nat}(hk:k<l.length){j:aM}(hj:f_ j)(d:j.Id=l[k].Id){Q:List Int}(a:qe Q) :
  zbn 5000 Q l l[k] j=some (l.set k j,oJ Q l[k].Queue j.Queue,0):=by
 unfold zbn;rw[set_ok hl hs hk hj d,aD];dsimp only;rw[if_neg (by simp),MC a,aD];dsimp only[fQ];unfold oJ;by_cases h:j.Queue=l[k].Queue
 ·simp_all
 ·rw[if_pos (by simp_all),if_neg h,MC (Hf a _),aD]
end
end Go.Plain
end
section
namespace Go.Plain
open Go.Abs
def zb(A:List ca)(a:ca):List ca:=match A with
 |[]=>[a]
 |b::A=>if b.bj<a.bj then b::zb A a else a::b::A
theorem pQ(A:List ca)(a:ca):(zb A a).Perm (a::A):=by
 induction A with
 |nil=>exact List.Perm.refl _
 |cons b A ih=>grind [zb]
theorem jJ{A:List ca}{a x:ca}:x∈zb A a↔x=a∨x∈A:=by rw[(pQ A a).mem_iff,gn]
theorem XH{A:List ca}{a:ca}(h:zU A)(hn:∀b∈A,b.bj≠a.bj):zU (zb A a):=by
 induction A with
 |nil=>simp[zb,zU]
 |cons b A ih=>
  unfold zU at h ih ⊢;rw[tn,yBm] at h;unfold zb;split
  ·rename_i g;rw[tn,yBm];refine ⟨λx e=>?_,ih h.2 λc d=>hn c (oD _ d)⟩;obtain ⟨c,d,rfl⟩:=iT.1 e;rcases jJ.1 d with rfl | d
   ·exact g
   simp_all
  grind [List.pairwise_cons]
theorem xP{A B:List ca}(h:A.Perm B)(i:Int)(c:Nat):cI A i c=cI B i c:=by
 induction h with
 |nil=>rfl
 |cons x _ ih=>grind [ZE]
 |swap x y l=>simp only[ZE];omega
 |trans _ _ h1 a=>omega
theorem msetV{α:Type}{L:List (Int×α)}{k:Int}{a:α}(h:cE L k=none):jP L k a=L++[(k,a)]:=by
 induction L with
 |nil=>rfl
 |cons p L ih=>
  obtain ⟨d,f⟩:=p;simp only[cE] at h;split at h
  ·simp at h
  ·rename_i e;simp only[jP,if_neg e,ih h,List.cons_append]
def pI(j:aM)(a:Int):aM:=gH j 3 a false 3
def eX(j:aM)(sh:List cW):ca:={ bj:=j.Id,ay:=j.ay,ae:=sh }
def kz(st:cw)(k:Nat)(j:aM)(sh:List cW):cw:=
 { st with aj:=st.aj.set k (pI j st.aX),ah:=zb st.ah (eX j sh),aE:={ aq:=oJ st.aE.aq j.Queue j.Queue,am:=OJ st.aE.am } }
section
variable{s:bn}{st:cw}(q:bx s st){k:Nat}(hk:k<st.aj.length)(h1:st.aj[k].State=1){sh:List cW}(hs:kY s st.aj[k] sh)(hf:xD (dj s.am st.ah) (eX st.aj[k] sh))
include q hk h1
theorem LB:∀a∈st.ah,a.bj≠st.aj[k].Id:=λa d e=>by
 obtain ⟨R,H⟩:=HX q.spec q.bp q.cf;have:=(H _ (bE hk)).has.1 ⟨a,d,e⟩
 grind [sP]
theorem Sy:st.aj[k].aO<281474976710656:=by have j:=q.bp.each _ (bE hk);have:=j.version;have:=Ej st.aj[k].State;have:=q.spec.tS;omega
theorem Bw:f_ (pI st.aj[k] st.aX):=by have j:=q.bp.each _ (bE hk);exact O_ j.ok q.nums.now false (ns:=3) (by rw[h1];rfl) (Sy q hk h1)
include hs hf
theorem OI:dj s.am (kz st k st.aj[k] sh).ah=kP (dj s.am st.ah) (eX st.aj[k] sh):=by
 show dj s.am (zb st.ah (eX st.aj[k] sh))=_;refine yBW (by grind [eK,Zz]) λi h1 a=>dU λc=>?_;have hn:i<s.am.length:=by grind [eK]
 rw[ql hn h1 c,mI a,pV,B_,AP,ql hn (by grind [eK]) c,xP (pQ ..),ZE];omega
theorem startV{L:List (Int×ca)}(hL:L.Perm (mapA st.ah)):∃p,zbr 5000 st.aE.aq st.aj L st.aj[k].Id sh s.am s.aG s.aq s.aR s.ai.kN s.ai.cK s.ai.fB s.ai.bI s.bR s.Mode s.aj s.jX s.aF s.bg s.cX s.In s.Out s.bQ st.aX st.aE.am (dj s.am st.ah) =
   some (p,(kz st k st.aj[k] sh).aE.aq,(kz st k st.aj[k] sh).aj,0,dj s.am (kz st k st.aj[k] sh).ah,(kz st k st.aj[k] sh).aE.am)/\p.Perm (mapA (kz st k st.aj[k] sh).ah):=by
 have r:=zdg q;have hl:=r.bp;have v:=q.bp.each _ (bE hk);have f:=v.ok;have T:=f.mf;have sl:sh.length<=300:=by have:=qR hs.shares (by omega);have:=q.spec.nodes.hi;omega
 have i:=AF q;have none:cE L st.aj[k].Id=none:=by
  rw[Hl hL (by
   have e:(mapA st.ah).map Prod.fst=st.ah.map (·.bj):=by simp[mapA]
   rw[e];exact i.imp λh=>by omega)]
  grind [GB,LB]
 obtain ⟨U,w,y⟩:=KG r.spec q.spec st.aj[k] sh sl;have:=y.2 hs;subst this;obtain ⟨A,E,G⟩:=VZ f (what:=3) q.nums.now false;have K:y_ st.aj[k].State 3=some 3:=by rw[h1];rfl
 have m:A=(pI st.aj[k] st.aX,0):=by
  rcases G with ⟨_,g | g⟩ | ⟨W,d,_,o⟩
  ·simp_all
  ·have:=Sy q hk h1;omega
  ·rw[K] at d;injection d with d
   subst d;exact o
 subst m;have N:=Mw q;obtain ⟨u,O,d,o⟩:=JE (M:=L) (a:=eX st.aj[k] sh) (F:=dj s.am st.ah) (by rw[eK];have:=q.spec.nodes.hi;omega) sl N;have P:uy L (dj s.am st.ah) (eX st.aj[k] sh):=by
  refine ⟨f.id,λe=>?_,by rw[eK];exact hs.shares,f.need,none,hf⟩;have Q:sh=[]:=e;have t:=hs.UP;rw[Q] at t;have:=f.many
  grind [lT]
 have z:=d.2 P;obtain ⟨m1,R⟩:=o z;refine ⟨u.1,?_,?_⟩
 ·unfold zbr;rw[get_some hl q.bp.bV hk (by omega),aD];dsimp only;rw[if_neg (by simp),if_neg (by simp[h1])];rw[show zeT 5000 ({ am:=s.am,aG:=s.aG,aq:=s.aq,aR:=s.aR,ai:=({ kN:=s.ai.kN,cK:=s.ai.cK,fB:=s.ai.fB,bI:=s.ai.bI }:JY),bR:=s.bR,Mode:=s.Mode,aj:=s.aj,jX:=s.jX,aF:=s.aF,bg:=s.bg,cX:=s.cX,In:=s.In,Out:=s.Out,bQ:=s.bQ }:bn) st.aj[k] sh=some true from w,aD,if_neg (by simp),E,aD,if_neg (by simp)];rw[show zaO 5000 L ({ bj:=st.aj[k].Id,ay:=st.aj[k].ay,ae:=sh }:ca) (dj s.am st.ah)=some u from O,aD,if_neg (by simp[z]),Ng q.use.nodes.1,aD,OU hl q.bp.bV hk (Bw q hk h1) rfl q.use.stamps,aD];rw[OI q hk h1 hs hf,R.eq];rfl
 ·rw[m1];show (jP L st.aj[k].Id (eX st.aj[k] sh)).Perm _;rw[msetV none];show (L++[(st.aj[k].Id,eX st.aj[k] sh)]).Perm (mapA (zb st.ah (eX st.aj[k] sh)));refine List.Perm.trans ?_ ((pQ st.ah (eX st.aj[k] sh)).map _).symm;exact (yBS.trans (List.Perm.cons _ hL))
theorem Mg(p:∀x∈sh,∀b∈st.az,b.Node=x.Node->¬b.bJ<st.aX+st.aj[k].aW):bx s (kz st k st.aj[k] sh):=by
 obtain ⟨R,H⟩:=HX q.spec q.bp q.cf;have g:=q.bp.each _ (bE hk);have y:=Bw q hk h1;have t:=AF q;have u:=LB q hk h1;have KM:=R.KM;have RA:=g.version;rw[h1] at RA;have r:YL s st st.aj[k] (pI st.aj[k] st.aX):=by refine ⟨rfl,⟨y,g.next,g.user,g.queue,g.born,OF _,g.fin,?_⟩,λ_=>(q.waits _ (bE hk) (by omega)).fits,rfl,λ_=>by omega⟩;show st.aj[k].aO+1<=s.aF+jc 3;have:jc 1=0:=rfl;have:jc 3=1:=rfl;omega
 have J:=r.bp (st':=kz st k st.aj[k] sh) hk q rfl rfl rfl;have o:zU (zb st.ah (eX st.aj[k] sh)):=XH t u;have v:=g.ok.wall;have w:∀(i:Nat)(m:i<s.am.length) c,cI (eX st.aj[k] sh::st.ah) i c<=cmp c s.am[i]:=λi m c=>by
  have hl:i<(dj s.am st.ah).length:=by grind [eK]
  have:=vB.1 (hf i hl) c;rw[pV,B_,AP,ql m hl c] at this
  grind [ZE]
 refine ⟨q.spec,⟨q.nums.now,q.nums.next,q.nums.book⟩,J,r.waits hk q rfl,WM q.spec J ⟨λi m=>?_,λi m c=>?_⟩ λx f=>?_,⟨q.kH.cJ,q.kH.live,λa d=>?_⟩,⟨q.use.len,q.use.use,by show (oJ _ _ _).length=_;rw[Mq];exact q.use.qlen,Rx q.use.nodes,OW q.use.stamps _ _⟩⟩
 ·have hm:∀a∈zb st.ah (eX st.aj[k] sh),(∃j∈(kz st k st.aj[k] sh).aj,j.Id=a.bj)/\a_ a.ae s.am.length/\aL a.ay:=λa d=>by
   rcases jJ.1 d with rfl | d
   ·exact ⟨⟨pI st.aj[k] st.aX,NF.2 ⟨k,by show k<(st.aj.set k _).length;simp_all,yB1 _⟩,rfl⟩,hs.shares,g.ok.need⟩
   ·obtain ⟨x,f,P⟩:=q.cf.mem _ d;exact ⟨idsC hk r.id ⟨x,f,P.Eo.symm⟩,KM _ d⟩
  obtain ⟨m1,z,A⟩:=hm _ (bE m);exact ⟨asc_at o i m,m1,z,A⟩
 ·show cI (zb st.ah (eX st.aj[k] sh)) i c<=_
  grind [xP,pQ]
 ·rcases Lm q.bp.bV hk f with rfl | ⟨f,c⟩
  ·refine ⟨⟨λ_=>rfl,λ_=>⟨_,jJ.2 (.inl rfl),rfl⟩⟩,λa d e=>?_⟩;rcases jJ.1 d with rfl | d
   ·exact ⟨rfl,rfl,⟨hs.shares,hs.UP,hs.q,hs.part⟩,by show st.aX<st.aX+st.aj[k].aW;omega⟩
   ·exact absurd e (u a d)
  ·have h:=H x f;refine ⟨⟨λ⟨a,d,e⟩=>?_,λE=>?_⟩,λa d e=>?_⟩
   ·rcases jJ.1 d with rfl | d
    ·exact absurd e.symm c
    ·exact h.has.1 ⟨a,d,e⟩
   ·obtain ⟨a,d,e⟩:=h.has.2 E;exact ⟨a,jJ.2 (.inr d),e⟩
   ·rcases jJ.1 d with rfl | d
    ·exact absurd e.symm c
    ·exact (h.Yk a d e).up rfl
 ·intro x f e;rcases jJ.1 d with rfl | d
  ·rcases Lm q.bp.bV hk f with rfl | ⟨f,c⟩
   ·exact p
   ·exact absurd e c
  ·rcases mem_set f with rfl | f
   ·exact absurd (show a.bj=st.aj[k].Id from e.symm) (u a d)
   ·exact q.kH.zC a d x f e
end
end Go.Plain
end
section
namespace Go.Plain
open Go.Abs
def Cc(q:iE)(w:AI):gX×Bool:=(zaB 5000 q w).getD ({ bj:=0,At:=0,ae:=[] },false)
section
variable{nodes:List (List bP)}{q:iE}{L:Nat}(hL:L<=200)(hq:qK q)(hp:PR nodes q L)
include hL hq hp
theorem QX{w:AI}(a:jd q w):zaQ 5000 nodes w.Part w.aK w.ay w.aW q.aX q.S.aG=some (Cc q w)/\zaB 5000 q w=some (Cc q w)/\∃T,zZ q T/\rJ q w T (Cc q w):=by grind [KQ,Cc]
structure zj (q:iE) (w:AI) (cT:Int) (sh:List cW):Prop where
 lo:q.aX<=cT
 hi:cT<=1099511627776
 shares:a_ sh q.S.am.length
 UP:lT sh=w.aK
 part:∀y∈sh,y.Node∈cz q w
 fit:∀(k:Nat)(h:k<q.S.am.length)(t:Int),cT<=t->t<cT+w.aW->xe (mulR (dM sh k) w.ay) (bC q k t)
theorem WR{w:AI}(a:jd q w){t:Int}(i:q.aX<=t)(f:(cF q w t).2=true):zj q w t (cF q w t).1:=by
 have m:=Zh hL hq hp a f;obtain ⟨F,o,h,_,e⟩:=CO (by omega) hq hp a i m;have w1:cF q w t=BU F (cz q w) w.aK w.ay:=by grind [cF]
 have K:=hq.spec.parts.ok _ (jI a).2;rw[w1] at f ⊢;obtain ⟨p1,p,r,v⟩:=Uo h (by grind [Gk.len]) a.need a.uM f;rw[o.len] at p1;refine ⟨i,m,p1,p,r,λk hk u z A=>?_⟩;have d:k<F.length:=by grind [Gk.len]
 have E:aL (bC q k u):=hp.right k u (by omega) (by omega) (by omega);refine mulR_le (xH (λy G=>by have:=p1.mem y G;omega) _) a.need ?_ E;rcases v k d with g | g
 ·left;intro c;have h1:=(o.low k d).le u _ z A rfl c;have M:=g c;omega
 omega
theorem zx{w:AI}(a:jd q w)(h:(Cc q w).2=true):zj q w (Cc q w).1.At (Cc q w).1.ae:=by obtain ⟨_,_,T,d,e⟩:=QX hL hq hp a;obtain ⟨f,g,_,_,i⟩:=e.yes h;rw[i];exact WR hL hq hp a ((d.mem _).1 f).1 g
end
def zN(j:aM)(p:gX):Ba:={ bJ:=p.At,To:=p.At+j.aW,ay:=j.ay,ae:=p.ae }
def Xs:zbj:={ lu:={ bj:=0,At:=0,ae:=[] },dD:={ Id:=0,cU:=0,Queue:=0,aK:=0,ay:={ bK:=0,Mem:=0,bM:=0,bO:=0 },aW:=0,aI:=[],State:=0,Ok:=false,dw:=false,aO:=0,dB:=0,Start:=0,End:=0,Array:=0 } }
theorem Y_{q:iE}{w:AI}{j:aM}{p:gX}(h:zj q w p.At p.ae)(hj:f_ j)(hq:qK q):ud (zN j p) q.S.am.length:=by
 have n:=hq.now;have a:=hj.wall;have d:=h.lo;have e:=h.hi;have nn:=hq.spec.nodes.hi;refine ⟨h.shares,?_,hj.need,?_,?_⟩
 ·have:=qR h.shares (by omega);show p.ae.length<=300;omega
 ·show 0<=p.At;omega
 ·show p.At+j.aW<=_;omega
theorem Wf {q:iE} {u:Ba} (hq:qK q) (d:ud u q.S.am.length) (hl:q.L.length+1≤100):qK (Cd q u):=
 ⟨hq.spec,hq.now,hq.cJ,fun v a=>by
  rcases mQ.1 a with a | a
  ·exact hq.used v a
  ·rw [Bl.1 a]; exact d,by show (q.L++[u]).length≤100; simp_all⟩
section
variable{nodes:List (List bP)}{q:iE}{L:Nat}(hL:L<=200)(hq:qK q)(hp:PR nodes q L){st:cw}{j:aM}(hj:np q.S st j)
include hL hq hp hj
theorem Ly{r:gX×Bool}(h:r.2=true):(named j r).1={ bj:=j.Id,At:=r.1.At,ae:=r.1.ae }/\(named j r).2=true:=by unfold named;simp_all
theorem yT:zbw 5000 nodes j q.S.am q.S.aG q.S.aq q.S.aR q.S.ai.kN q.S.ai.cK q.S.ai.fB q.S.ai.bI q.S.bR q.S.Mode q.S.aj q.S.jX q.S.aF q.S.bg q.S.cX q.S.In q.S.Out q.S.bQ q.aX q.S.aG=some (named j (Cc q (cZ q.S j))):=by
 have d:=vE hq.spec rfl hj;obtain ⟨a,_,_⟩:=QX hL hq hp d;obtain ⟨i,e,f⟩:=uY ⟨hj.ok.queue.1,hj.queue⟩;have g:=hj.queue;have h:=hj.ok.queue.1;rw[f] at a ⊢;unfold zbw;rw[nh (fT hq.spec),aD,if_neg (by simp_all),e,aD];dsimp only at a ⊢;rw[a,aD];unfold named
 grind
theorem Ic:∃a,zbd 5000 nodes j q.aX q.S.aG q.S.am q.S.aG q.S.aq q.S.aR q.S.ai.kN q.S.ai.cK q.S.ai.fB q.S.ai.bI q.S.bR q.S.Mode q.S.aj q.S.jX q.S.aF q.S.bg q.S.cX q.S.In q.S.Out q.S.bQ =
   (if (named j (Cc q (cZ q.S j))).2=true then some (a,{ lu:=(named j (Cc q (cZ q.S j))).1,dD:=j },true) else some (nodes,Xs,false)) /\
  ((Cc q (cZ q.S j)).2=true->PR a (Cd q (zN j (named j (Cc q (cZ q.S j))).1)) (L+2)):=by
 have p:=vE hq.spec rfl hj;have r:=yT hL hq hp hj;unfold zbd;rw[r,aD];by_cases h:(Cc q (cZ q.S j)).2=true
 ·obtain ⟨i,f⟩:=Ly hL hq hp hj h;have P:=zx hL hq hp p h;obtain ⟨_,_,m⟩:=uY ⟨hj.ok.queue.1,hj.queue⟩;have t:(cZ q.S j).ay=j.ay:=by rw[m]
  have u:(cZ q.S j).aW=j.aW:=by rw[m]
  have o:=P.fit;rw[t,u] at o;obtain ⟨a,e,d⟩:=SE hL hq hp P.shares hj.ok.need hj.ok.wall P.lo P.hi o;refine ⟨a,?_,λ_=>?_⟩
  ·rw[i,f,if_neg (by simp),if_pos rfl];dsimp only;rw[e,aD,pG (hp.len.trans d.len.symm)];rfl
  ·rw[i];exact d
 ·have f:(named j (Cc q (cZ q.S j)))=({ bj:=0,At:=0,ae:=[] },false):=by unfold named;simp_all
  refine ⟨nodes,?_,λg=>absurd g h⟩;rw[f,if_pos (by simp),if_neg (by simp)];rfl
end
end Go.Plain
end
section
namespace Go.Plain
open Go.Abs
structure CX where
 st:cw
 q:iE
 P:List gX
 S:List gX
def Xp(l:List aM)(id:Int):Nat:=l.findIdx λj=>j.Id == id
def EU(st:cw)(j:aM)(sh:List cW):cw:=kz st (Xp st.aj j.Id) j sh
def jF(s:bn)(q:iE)(j:aM):gX×Bool:=named j (Cc q (cZ s j))
def iO(s:bn)(x:CX)(j:aM):CX:=
 if rR s x.st.aj j.Id=true then
  if (jF s x.q j).2=true then
   if (jF s x.q j).1.At > x.q.aX then { st:=x.st,q:=Cd x.q (zN j (jF s x.q j).1),P:=x.P++[(jF s x.q j).1],S:=x.S }
   else { st:=EU x.st j (jF s x.q j).1.ae,q:=Cd x.q (zN j (jF s x.q j).1),P:=x.P,S:=x.S++[(jF s x.q j).1] }
  else x
 else x
theorem RJ{l:List aM}(hs:b_ l){i:Nat}(a:i<l.length):Xp l l[i].Id=i:=by unfold Xp;have h:l.findIdx (λj=>j.Id == l[i].Id)<l.length:=List.findIdx_lt_length.2 ⟨l[i],bE a,by simp⟩;have:=List.findIdx_getElem (w:=h);simp only[my] at this;exact hs.inj h a this
structure lS (s:bn) (st0:cw) (x:CX) (n:Nat):Prop where
 sound:bx s x.st
 now:x.st.aX=st0.aX
 next:x.st.Next=st0.Next
 book:x.st.dV=st0.dV
 cJ:x.st.az=st0.az
 use:x.st.nR=st0.nR
 len:x.st.aj.length=st0.aj.length
 bp:∀m (h:m<x.st.aj.length) (h':m<st0.aj.length),x.st.aj[m]=st0.aj[m]∨x.st.aj[m]=pI st0.aj[m] st0.aX
 ref:qK x.q
 qs:x.q.S=s
 qn:x.q.aX=st0.aX
 qb:x.q.az=st0.az
 yL:x.q.L.length<=30+n
 used:∀(k:Nat)(c:Nat),cI x.st.ah k c<=cmp c (aZ x.q.L k st0.aX)
 BI:x.P.length+x.S.length<=n
theorem lS.up{s:bn}{st0:cw}{x:CX}{n:Nat}(h:lS s st0 x n):lS s st0 x (n+1):={ h with yL:=by have:=h.yL;omega,BI:=by have:=h.BI;omega }
theorem Bp(q:iE)(u:Ba)(k t:Int)(c:Nat):cmp c (aZ (Cd q u).L k t)=cmp c (aZ q.L k t)+cmp c (jN u k t):=by grind [Cd,nB,vT]
section
variable{s:bn}{st0:cw}{x:CX}{n:Nat}(I:lS s st0 x n)(q0:bx s st0)
include I q0
theorem lS.Eo{j:aM}(hj:j∈st0.aj)(hm:rR s x.st.aj j.Id=true):∃m,∃h:m<x.st.aj.length,x.st.aj[m]=j/\j.State=1:=by
 obtain ⟨m,o,e,_,h1⟩:=UE hm;have hl:m<st0.aj.length:=by grind [lS.len]
 obtain ⟨i,u,rfl⟩:=km hj;rcases I.bp m o hl with g | g
 ·rw[g] at e h1;have:=q0.bp.bV.inj hl u e
  grind
 grind [pI,gH]
end
section
variable{s:bn}{st0:cw}{x:CX}{n:Nat}(I:lS s st0 x n)(q0:bx s st0)(hn:n<=30){nodes:List (List bP)}{b:Nat}(hb:b<=200)(hp:PR nodes x.q b){j:aM}(hj:j∈st0.aj)(hm:rR s x.st.aj j.Id=true)
include I q0 hn hb hp hj hm
structure Eh (s:bn) (x:CX) (j:aM) (m:Nat) (hm:m<x.st.aj.length) (p:gX):Prop where
 cT:x.st.aj[m]=j
 one:x.st.aj[m].State=1
 qB:kY s x.st.aj[m] p.ae
 fits:p.At=x.st.aX->xD (dj s.am x.st.ah) (eX x.st.aj[m] p.ae)
 zC:p.At=x.st.aX->∀y∈p.ae,∀b∈x.st.az,b.Node=y.Node->¬b.bJ<x.st.aX+x.st.aj[m].aW
 id:p.bj=j.Id
 place:zj x.q (cZ s j) p.At p.ae
theorem yq(h:(jF s x.q j).2=true):∃m,∃hm:m<x.st.aj.length,Eh s x j m hm (jF s x.q j).1:=by
 obtain ⟨m,p,e,h1⟩:=I.Eo q0 hj hm;have M:=I.qs;have d:=I.sound.bp.each _ (bE p);rw[e] at d;have F:np x.q.S x.st j:=by simp_all
 have Q:jd x.q (cZ s j):=vE (st:=x.st) I.sound.spec M d;have N:(Cc x.q (cZ s j)).2=true:=by grind [jF,named]
 have P:=zx hb I.ref hp Q N;obtain ⟨R,_⟩:=Ly hb I.ref hp F N;have pl:(jF s x.q j).1={ bj:=j.Id,At:=(Cc x.q (cZ s j)).1.At,ae:=(Cc x.q (cZ s j)).1.ae }:=R;obtain ⟨T,U,w⟩:=uY (s:=s) (j:=j) ⟨d.ok.queue.1,d.queue⟩;have W:(cZ s j).ay=j.ay:=by rw[w]
 have X:(cZ s j).aW=j.aW:=by rw[w]
 have wm:(cZ s j).aK=j.aK:=by rw[w]
 have wp:(cZ s j).Part=s.aq[j.Queue.toNat].Part:=by rw[w]
 have z:=P.fit;have a:=P.shares;have Y:=P.lo;rw[W,X] at z;rw[M] at a z;have xn:x.q.aX=x.st.aX:=by rw[I.qn,I.now]
 have O:=d.ok.wall;refine ⟨m,p,e,by simp_all,?_,λr=>?_,λr=>?_,by rw[pl],by simp_all⟩
 ·rw[e,pl];refine ⟨a,by grind [zj.UP],⟨d.ok.queue.1,d.queue⟩,λy A=>?_⟩;have:=P.part y A
  grind [cz]
 ·rw[e];rw[pl] at r ⊢;dsimp only at r ⊢;intro i E;have g:i<s.am.length:=by grind [eK]
  have Z:=Mw I.sound;refine vB.2 λc=>?_;have l1:=vB.1 (Z _ (bE E)) c;have o:=gU (qY a i) (vB.1 d.ok.need c);unfold pV;rw[B_,AP];show 0<=_-dM (Cc x.q (cZ s j)).1.ae i * cmp c j.ay/\_-dM (Cc x.q (cZ s j)).1.ae i * cmp c j.ay<=1048576;have f:=z i g x.q.aX (by omega) (by omega) c;rw[AP] at f;have fl:cmp c (bC x.q i x.q.aX)<=cmp c (dj s.am x.st.ah)[i]:=by
   rw[ql g E];have u:=I.used i c;have nv:=vB.1 (I.sound.spec.nodes.ok _ (bE g)) c;unfold bC;split
   ·grind [NH,ql]
   grind [B_,zP,lS.qn]
  omega
 ·rw[e];rw[pl] at r ⊢;dsimp only at r ⊢;intro y A bk v en aa;obtain ⟨i,E,rfl⟩:=km A;have o:=JF a E;obtain ⟨y0,y1,y2,y3⟩:=a.mem _ A;have bl:=(I.sound.kH.live _ v).2;obtain ⟨G,K,rfl⟩:=km v;have b1:=(I.sound.kH.cJ.each G K).one;have sp:=b1.span
  let t:=max x.st.aX x.st.az[G].bJ
  have t1:x.st.aX<=t:=by omega
  have t2:t<x.st.aX+j.aW:=by omega
  have hk:((Cc x.q (cZ s j)).1.ae[i]).Node.toNat<s.am.length:=by omega
  have f:=z _ hk t (by omega) (by omega);rw[yBX y0,o] at f;have mz:DW x.q.az ((Cc x.q (cZ s j)).1.ae[i]).Node t:=⟨x.st.az[G],by rw[I.qb,<-I.cJ];omega,en,by omega,by omega⟩;have fz:bC x.q ((Cc x.q (cZ s j)).1.ae[i]).Node t=bN:=by unfold bC;grind
  rw[fz] at f;apply d.ok.uM;refine dU λc=>?_;have fc:=f c;rw[AP,NH] at fc;rw[NH];have n0:=vB.1 d.ok.need c;have:1 * cmp c j.ay<=((Cc x.q (cZ s j)).1.ae[i]).aK * cmp c j.ay:=yAQ y2 n0.1;omega
end
theorem lS.step{s:bn}{st0:cw}{x:CX}{n:Nat}(I:lS s st0 x n)(q0:bx s st0)(hn:n<=30){nodes:List (List bP)}{b:Nat}(hb:b<=200)(hp:PR nodes x.q b){j:aM}(hj:j∈st0.aj):lS s st0 (iO s x j) (n+1):=by
 unfold iO;split
 rotate_left
 ·exact I.up
 rename_i hm;split
 rotate_left
 ·exact I.up
 rename_i z;obtain ⟨m,o,F⟩:=yq I q0 hn hb hp hj hm z;have E:=I.sound.bp.each _ (bE o);have A:=E.ok;rw[F.cT] at E A;have G:ud (zN j (jF s x.q j).1) x.q.S.am.length:=Y_ F.place A I.ref;have K:=Wf I.ref G (by have:=I.yL;omega);have yL:(Cd x.q (zN j (jF s x.q j).1)).L.length<=30+(n+1):=by have:=I.yL;show (x.q.L++[_]).length<=_;grind
 have O:=F.place.lo;have more:∀k c,cmp c (aZ x.q.L k st0.aX)<=cmp c (aZ (Cd x.q (zN j (jF s x.q j).1)).L k st0.aX):=λk c=>by rw[Bp];have:=JM G k st0.aX c;omega
 split
 ·exact { I with
   ref:=K
   qs:=I.qs
   qn:=I.qn
   qb:=I.qb
   yL:=yL
   used:=λk c=>Int.le_trans (I.used k c) (more k c)
   BI:=by have:=I.BI;grind }
 ·rename_i Q;have cT:(jF s x.q j).1.At=x.st.aX:=by grind [lS.qn,lS.now]
  have R:Xp x.st.aj j.Id=m:=by rw[<-F.cT];exact RJ I.sound.bp.bV o
  have U:EU x.st j (jF s x.q j).1.ae=kz x.st m x.st.aj[m] (jF s x.q j).1.ae:=by unfold EU;rw[R,F.cT]
  have W:=Mg I.sound o F.one F.qB (F.fits cT) (F.zC cT);rw[U];exact {
   sound:=W
   now:=I.now
   next:=I.next
   book:=I.book
   cJ:=I.cJ
   use:=I.use
   len:=by show (x.st.aj.set m _).length=_;rw[W_];exact I.len
   bp:=λi h M=>by
    have X:i<x.st.aj.length:=by grind [lS.len]
    show (x.st.aj.set m (pI x.st.aj[m] x.st.aX))[i]'(by simp_all)=_∨(x.st.aj.set m (pI x.st.aj[m] x.st.aX))[i]'(by simp_all)=_;by_cases g:m=i
    ·subst g;rw[yB1];right;rcases I.bp m o M with g | g
     ·rw[g,I.now]
     grind [Eh.one,pI,gH]
    ·rw[yB9 g];exact I.bp i X M
   ref:=K
   qs:=I.qs
   qn:=I.qn
   qb:=I.qb
   yL:=yL
   used:=λk c=>by
    show cI (zb x.st.ah (eX x.st.aj[m] (jF s x.q j).1.ae)) k c<=_;rw[xP (pQ ..),ZE,Bp];have u:=I.used k c;have Y:jN (zN j (jF s x.q j).1) k st0.aX=mulR (dM (jF s x.q j).1.ae k) j.ay:=by
     unfold jN;have Z:=A.wall;rw[if_pos]
     ·rfl
     ·show (jF s x.q j).1.At<=st0.aX/\st0.aX<(jF s x.q j).1.At+j.aW
      grind [lS.now]
    rw[Y,AP,F.cT];show dM (jF s x.q j).1.ae k * cmp c j.ay+_<=_;omega
   BI:=by have:=I.BI;grind }
end Go.Plain
end
section
namespace Go.Plain
open Go.Abs
def zeroH:fe:={ bj:=0,pJ:=0,aI:=0 }
def OC(s:bn)(st:cw):CX:={ st:=st,q:=dE s st,P:=[],S:=[] }
def fV(s:bn)(st:cw)(r:List aM):CX:=r.foldl (iO s) (OC s st)
section
variable{s:bn}{st0:cw}(q0:bx s st0)(h30:st0.aj.length<=30)
include q0 h30
theorem cinv0:lS s st0 (OC s st0) 0:={
 sound:=q0
 now:=rfl
 next:=rfl
 book:=rfl
 cJ:=rfl
 use:=rfl
 len:=rfl
 bp:=λm h g=>.inl rfl
 ref:=Ju (zdg q0) q0 h30
 qs:=rfl
 qn:=rfl
 qb:=rfl
 yL:=by
  have:=yn (zdg q0) q0;show (st0.ah.map (dK st0)).length<=_
  grind
 used:=λk c=>by
  have d:=zdg q0;show cI st0.ah k c<=cmp c (aZ (st0.ah.map (dK st0)) k st0.aX);rw[AB,UW];unfold cI;have:∀A:List ca,(∀a∈A,a∈st0.ah)->(A.map λa=>dM a.ae k * cmp c a.ay)=A.map ((λu=>cmp c (jN u k st0.aX))∘dK st0):=λA e=>List.map_congr_left λa f=>by have b:=Em d q0 (e a f);show _=cmp c (jN (dK st0 a) k st0.aX);unfold jN;rw[if_pos (show (dK st0 a).bJ<=st0.aX/\st0.aX<(dK st0 a).To from ⟨OF _,b.1⟩),AP];rfl
  grind
 BI:=NA _ }
theorem Hd{r:List aM}{i:Nat}(a:i<r.length):fV s st0 (r.take (i+1))=iO s (fV s st0 (r.take i)) r[i]:=by grind [fV,List.take_succ_eq_append_getElem]
theorem HU{L:List (Int×ca)}(hL:L.Perm (mapA st0.ah)):∃r,zbo 5000 st0.aE.aq st0.aj L s.am s.aG s.aq s.aR s.ai.kN s.ai.cK s.ai.fB s.ai.bI s.bR s.Mode s.aj s.jX s.aF s.bg s.cX s.In s.Out s.bQ st0.aX st0.Next st0.dV st0.az st0.nR st0.aE.am=some r/\r.Perm (st0.aj.filter (DZ st0.aj)) /\
  (∀i,i<=r.length->lS s st0 (fV s st0 (r.take i)) i/\∃nodes,PR nodes (fV s st0 (r.take i)).q (93+2 * i)) /\
  ∃ v, zbs 5000 st0.aE.aq st0.aj L s.am s.aG s.aq s.aR s.ai.kN s.ai.cK s.ai.fB s.ai.bI s.bR s.Mode s.aj s.jX s.aF s.bg s.cX s.In s.Out s.bQ st0.aX st0.Next st0.dV st0.az st0.nR st0.aE.am (dj s.am st0.ah) =
   some ((fV s st0 r).st.aE.aq,(fV s st0 r).st.aj,v,{ Started:=(fV s st0 r).S,dm:=(fV s st0 r).P,Ed:=zeroH },0,(fV s st0 r).st.aE.am,dj s.am (fV s st0 r).st.ah)/\v.Perm (mapA (fV s st0 r).st.ah):=by
 have U:=zdg q0;have bl:=q0.kH.cJ.len;have al:=yn U q0;obtain ⟨r,er,W⟩:=readyV q0 hL h30;have rl:r.length<=30:=by grind [List.Perm.length_eq,List.length_filter_le]
 have M:∀j∈r,j∈st0.aj:=λj hj=>(QN.1 (W.mem_iff.1 hj)).1;obtain ⟨d,Z,o⟩:=FN U q0 h30 (PP q0 hL);have w:PR d (dE s st0) 93:=⟨o.len,⟨λk h=>⟨(o.cT.each k h).1,by have:=(o.cT.each k h).2;omega⟩,o.cT.first⟩,o.val⟩;have step:∀i (u:i<r.length) (I:lS s st0 (fV s st0 (r.take i)) i) nodes,PR nodes (fV s st0 (r.take i)).q (93+2 * i)->∃a,zbd 5000 nodes r[i] st0.aX s.aG s.am s.aG s.aq s.aR s.ai.kN s.ai.cK s.ai.fB s.ai.bI s.bR s.Mode s.aj s.jX s.aF s.bg s.cX s.In s.Out s.bQ =
   (if (jF s (fV s st0 (r.take i)).q r[i]).2=true then some (a,{ lu:=(jF s (fV s st0 (r.take i)).q r[i]).1,dD:=r[i] },true) else some (nodes,Xs,false)) /\
   ((jF s (fV s st0 (r.take i)).q r[i]).2=true->PR a (Cd (fV s st0 (r.take i)).q (zN r[i] (jF s (fV s st0 (r.take i)).q r[i]).1)) (93+2 * (i+1))):=λi u I nodes hp=>by
  have ji:=q0.bp.each _ (M _ (bE u));have N:np (fV s st0 (r.take i)).q.S st0 r[i]:=by grind [lS.qs]
  obtain ⟨a,e,h⟩:=Ic (by omega) I.ref hp N;rw[I.qs,I.qn] at e;refine ⟨a,e,λg=>?_⟩;rw[I.qs] at h;have:(Cc (fV s st0 (r.take i)).q (cZ s r[i])).2=true:=by grind [jF,named]
  have:=h this;rw[show 93+2 * (i+1)=93+2 * i+2 by omega];exact this
 have z:∀i,i<=r.length->lS s st0 (fV s st0 (r.take i)) i/\∃nodes,PR nodes (fV s st0 (r.take i)).q (93+2 * i):=by
  intro i;induction i with
  |zero=>intro _;exact ⟨cinv0 q0 h30,d,w⟩
  |succ i ih=>
   intro u;obtain ⟨I,nodes,hp⟩:=ih (by omega);rw[Hd q0 h30 (show i<r.length by omega)];refine ⟨I.step q0 (by omega) (by omega) hp (M _ (bE _)),?_⟩;obtain ⟨a,_,h⟩:=step i (by omega) I nodes hp;have O:PR nodes (fV s st0 (r.take i)).q (93+2 * (i+1)):=⟨hp.len,⟨λk h=>⟨(hp.cT.each k h).1,by have:=(hp.cT.each k h).2;omega⟩,hp.cT.first⟩,hp.val⟩
   grind [iO]
 refine ⟨r,er,W,z,?_⟩
 suffices h:bL (zbs 5000 st0.aE.aq st0.aj L s.am s.aG s.aq s.aR s.ai.kN s.ai.cK s.ai.fB s.ai.bI s.bR s.Mode s.aj s.jX s.aF s.bg s.cX s.In s.Out s.bQ st0.aX st0.Next st0.dV st0.az st0.nR st0.aE.am (dj s.am st0.ah)) λx=>∃v,x=((fV s st0 r).st.aE.aq,(fV s st0 r).st.aj,v,{ Started:=(fV s st0 r).S,dm:=(fV s st0 r).P,Ed:=zeroH },0,(fV s st0 r).st.aE.am,dj s.am (fV s st0 r).st.ah)/\v.Perm (mapA (fV s st0 r).st.ah) by obtain ⟨x,e,v,rfl,h⟩:=h;exact ⟨v,e,h⟩
 unfold zbs zeY;rw[Z,aD,aD];dsimp only;rw[er,aD];refine ja r.length (λi x=>∃A nodes,x=((i:Int),(fV s st0 (r.take i)).st.aE.am,dj s.am (fV s st0 (r.take i)).st.ah,(fV s st0 (r.take i)).st.aE.aq,(fV s st0 (r.take i)).st.aj,A,nodes,(fV s st0 (r.take i)).P,(fV s st0 (r.take i)).S)/\A.Perm (mapA (fV s st0 (r.take i)).st.ah)/\PR nodes (fV s st0 (r.take i)).q (93+2 * i)) (λi x f u P aa=>?_) (λx f P=>?_)
  ⟨L,d,rfl,hL,w⟩ (by omega)
 ·obtain ⟨A,nodes,rfl,p,hp⟩:=P;obtain ⟨I,_⟩:=z i (by omega);have t:=Hd (s:=s) q0 h30 u;have y:=mayV I.sound p r[i].Id;rw[I.now,I.next,I.book,I.cJ,I.use] at y;obtain ⟨a,E,X⟩:=step i u I nodes hp;have O:PR nodes (fV s st0 (r.take i)).q (93+2 * (i+1)):=⟨hp.len,⟨λk h=>⟨(hp.cT.each k h).1,by have:=(hp.cT.each k h).2;omega⟩,hp.cT.first⟩,hp.val⟩;dsimp only;rw[if_pos (cM u),fQ,bW u,aD,y,aD,bT (show i<1000000 by omega)];unfold iO at t;rw[bo];refine ⟨λh=>?_,λh=>?_⟩
  ·grind
  ·have hm:rR s (fV s st0 (r.take i)).st.aj r[i].Id=true:=by grind
   rw[if_pos hm] at t;rw[E];by_cases g:(jF s (fV s st0 (r.take i)).q r[i]).2=true
   ·rw[if_pos g] at t;rw[if_pos g,aD,if_neg (by simp)];unfold zdA;rw[aD];have pl:=I.BI;by_cases Y:(jF s (fV s st0 (r.take i)).q r[i]).1.At > (fV s st0 (r.take i)).q.aX
    ·rw[if_pos Y] at t;have g3:(jF s (fV s st0 (r.take i)).q r[i]).1.At > st0.aX:=by grind [lS.qn]
     rw[if_pos (by grind),Ap (by grind),aD]
     grind
    ·rw[if_neg Y] at t;have g3:¬(jF s (fV s st0 (r.take i)).q r[i]).1.At > st0.aX:=by grind [lS.qn]
     obtain ⟨m,G,F⟩:=yq I q0 (by omega) (by omega) hp (M _ (bE u)) hm g;have ab:=F.place.lo;have cT:(jF s (fV s st0 (r.take i)).q r[i]).1.At=(fV s st0 (r.take i)).st.aX:=by grind [lS.qn,lS.now]
     obtain ⟨v,Q,R⟩:=startV I.sound G F.one F.qB (F.fits cT) p;have ix:Xp (fV s st0 (r.take i)).st.aj r[i].Id=m:=by rw[<-F.cT];exact RJ I.sound.bp.bV G
     have K:EU (fV s st0 (r.take i)).st r[i] (jF s (fV s st0 (r.take i)).q r[i]).1.ae=kz (fV s st0 (r.take i)).st m (fV s st0 (r.take i)).st.aj[m] (jF s (fV s st0 (r.take i)).q r[i]).1.ae:=by unfold EU;rw[ix,F.cT]
     rw[<-K,I.now] at Q;rw[<-K] at R;have T:(fV s st0 (r.take i)).st.aj[m].Id=(jF s (fV s st0 (r.take i)).q r[i]).1.bj:=by rw[F.cT,F.id]
     rw[T] at Q;rw[if_neg (by grind),Q,aD,if_pos (by rfl),Ap (by grind),aD]
     grind
   grind
 ·obtain ⟨A,nodes,rfl,p,hp⟩:=P;dsimp only;rw[if_neg (by simp),aY];rw[yh] at p ⊢;exact ⟨A,rfl,p⟩
end
end Go.Plain
end
section
set_option maxRecDepth 100000
namespace Go.Plain
open Go.Abs
theorem MU:fL 5000=some true:=by kernel_rfl
theorem Hn(s:bn):∀(l:List aM)(x:CX),x.S <+: (l.foldl (iO s) x).S/\x.P <+: (l.foldl (iO s) x).P
 |[],x=>⟨yB2 _,yB2 _⟩
 |j :: l, x => by
  have h:x.S <+: (iO s x j).S/\x.P <+: (iO s x j).P:=by
   unfold iO;split
   ·split
    ·split
     ·exact ⟨yB2 _,List.prefix_append ..⟩
     ·exact ⟨List.prefix_append ..,yB2 _⟩
    ·exact ⟨yB2 _,yB2 _⟩
   ·exact ⟨yB2 _,yB2 _⟩
  obtain ⟨h1,a⟩:=Hn s l (iO s x j);exact ⟨h.1.trans h1,h.2.trans a⟩
theorem LQ{α:Type}{a:α}{l:List α}(h:[a] <+: l):∃h:0<l.length,l[0]=a:=by obtain ⟨t,rfl⟩:=h;exact ⟨by simp,rfl⟩
theorem Hu{s:bn}{st:cw}{l:List aM}(h:∀j∈l,¬rR s st.aj j.Id=true):fV s st l=OC s st:=by
 unfold fV;induction l with
 |nil=>rfl
 |cons j l ih=>
  rw[List.foldl_cons];have:iO s (OC s st) j=OC s st:=by unfold iO;exact if_neg (h j (rX ..))
  rw[this];exact ih λx a=>h x (oD _ a)
def iz(s:bn)(st:cw)(l:List aM):Int×Int×Bool:=match l.find? λj=>rR s st.aj j.Id with
 |some j=>(j.Id,(jF s (dE s st) j).1.At,(jF s (dE s st) j).2)
 |none=>(0,0,false)
theorem Fo(w:zdC):zcz 5000 w=some true:=by
 unfold zcz;rw[MU,aD,if_neg (by simp)];obtain ⟨r1,e,h⟩:=few23 w.S w.St;obtain ⟨aa,T,h'⟩:=few30P w.S w.St;rw[e] at T;simp only[au] at T;subst T;rw[e,aD];by_cases hl:(!r1)=true
 ·rw[if_pos hl]
 rw[if_neg hl];simp only[iF,oh] at hl;have G:=h hl;have h30:=h' hl;by_cases q:bx w.S w.St
 ·rw[UJ G q,aD];obtain ⟨r,er,Z,K,L',M,ab⟩:=HU q h30 (List.Perm.refl (mapA w.St.ah));have N:=FR G q;generalize w.S=s at *;generalize w.St=st at *;dsimp only;have rl:r.length<=30:=by rw[Z.length_eq];exact lA (List.length_filter_le _ _) h30
  have O:∀j∈r,j∈st.aj:=λj hj=>(QN.1 (Z.mem_iff.1 hj)).1;obtain ⟨I,_⟩:=K r.length (cR _);rw[yh] at I;obtain ⟨I0,nodes,hp⟩:=K 0 (NA _);have y:PR nodes (dE s st) 93:=hp;have hq:=Ju G q h30;have P:∀j∈r,1<=j.Id:=λj hj=>(q.bp.each _ (O j hj)).ok.id.1;have o:∀j∈r,zdh 5000 s st j.Id=some ((jF s (dE s st) j).1.At,(jF s (dE s st) j).2):=λj hj=>by have ji:=q.bp.each _ (O j hj);obtain ⟨x,ex,h3,h4,_⟩:=vn G.bp j.Id;have t:0<=x:=h3.2 ⟨j,O j hj,rfl⟩;have a:=h4 t;have v:=a.hi;have ej:st.aj[x.toNat]=j:=GD q (bE v) (O j hj) a.is;obtain ⟨i,rfl⟩:∃i:Nat,x=(i:Int):=⟨x.toNat,by omega⟩;simp only[Int.toNat_natCast] at v ej;obtain ⟨p,e1,e2,_⟩:=MD (by omega) hq y (st:=st) (j:=j) ji;have U:=yT (by omega) hq y (st:=st) (j:=j) ji;rw[e1] at U;simp only[au] at U;unfold zdh;rw[ex,aD,if_neg (by simp),N,aD,bW v,aD,ej];rw[show zbV 5000 s (dE s st) j=some (named j p) from e2,aD,U];rfl
  rw[if_neg (by simp),show zbo 5000 st.aE.aq st.aj (List.map (λa=>(a.bj,a)) st.ah) s.am s.aG s.aq s.aR s.ai.kN s.ai.cK s.ai.fB s.ai.bI s.bR s.Mode s.aj s.jX s.aF s.bg s.cX s.In s.Out s.bQ st.aX st.Next st.dV st.az st.nR st.aE.am=_ from er,aD];refine bL.eq (ja r.length (λi x=>x=((iz s st (r.take i)).1,(iz s st (r.take i)).2.1,(iz s st (r.take i)).2.2,(i:Int))) (λi x f v Q z=>?_) (λx f Q=>?_) rfl (by omega))
  ·subst Q;dsimp only;have hm:=bE v;have d:=mayV q (List.Perm.refl (mapA st.ah)) r[i].Id;rw[if_pos (cM v),fQ,bW v,aD,show zcq 5000 st.aE.aq st.aj (List.map (λa=>(a.bj,a)) st.ah) r[i].Id s.am s.aG s.aq s.aR s.ai.kN s.ai.cK s.ai.fB s.ai.bI s.bR s.Mode s.aj s.jX s.aF s.bg s.cX s.In s.Out s.bQ st.aX st.Next st.dV st.az st.nR st.aE.am=_ from d,aD,bT (show i<1000000 by omega)];have u:iz s st (r.take (i+1))=(match (r.take i).find? λj=>rR s st.aj j.Id with
     |some j=>iz s st (r.take i)
     |none=>if rR s st.aj r[i].Id=true then (r[i].Id,(jF s (dE s st) r[i]).1.At,(jF s (dE s st) r[i]).2) else (0,0,false)):=by
    unfold iz;rw[Fc v,List.find?_append];cases (r.take i).find? λj=>rR s st.aj j.Id with
    |some j=>rfl
    |none=>rw[Option.none_or,List.find?_cons,List.find?_nil];cases rR s st.aj r[i].Id <;> rfl
   cases hf:(r.take i).find? (λj=>rR s st.aj j.Id) with
   |some j=>
    rw[hf] at u;dsimp only at u;have hj:=NP (yBh hf);have t:¬(iz s st (r.take i)).1=0:=by unfold iz;rw[hf];have:=P j hj;dsimp only;omega
    rw[if_neg (by simp[t])];exact z _ (by rw[u])
   |none=>
    rw[hf] at u;dsimp only at u;have t:iz s st (r.take i)=(0,0,false):=by unfold iz;rw[hf]
    rw[t,bo];refine ⟨λh=>?_,λh=>?_⟩
    ·rw[if_pos (by simpa using h)] at u;rw[o _ hm,aD];exact z _ (by rw[u])
    ·rw[if_neg (by simpa using h)] at u;exact z _ (by rw[u])
  ·subst Q;dsimp only;rw[if_neg (by simp),yh,show zbs 5000 st.aE.aq st.aj (List.map (λa=>(a.bj,a)) st.ah) s.am s.aG s.aq s.aR s.ai.kN s.ai.cK s.ai.fB s.ai.bI s.bR s.Mode s.aj s.jX s.aF s.bg s.cX s.In s.Out s.bQ st.aX st.Next st.dV st.az st.nR st.aE.am (dj s.am st.ah)=_ from M,aD];dsimp only;cases hf:r.find? (λj=>rR s st.aj j.Id) with
   |none=>
    have:∀j∈r,¬rR s st.aj j.Id=true:=λj hj=>by simpa using List.find?_eq_none.1 hf j hj
    have t:iz s st r=(0,0,false):=by unfold iz;rw[hf]
    rw[Hu this,t,if_pos (by simp)];exact aY.2 rfl
   |some j=>
    have hj:=yBh hf;have d:rR s st.aj j.Id=true:=by simpa using List.find?_some hf
    obtain ⟨_,l1,bs,W,X⟩:=List.find?_eq_some_iff_append.1 hf;have t:iz s st r=(j.Id,(jF s (dE s st) j).1.At,(jF s (dE s st) j).2):=by unfold iz;rw[hf]
    have ad:=P j hj;rw[t];dsimp only;rw[if_neg (by simp;omega),bo];refine ⟨λ_=>aY.2 rfl,λg=>?_⟩;have g:(jF s (dE s st) j).2=true:=by simpa using g
    have ec:fV s st r=bs.foldl (iO s) (iO s (OC s st) j):=by
     rw[W];have:=Hu (s:=s) (st:=st) (l:=l1) λx Q=>by simpa using X x Q
     unfold fV at this ⊢;rw[List.foldl_append,this,List.foldl_cons]
    obtain ⟨p1,E⟩:=Hn s bs (iO s (OC s st) j);rw[<-ec] at p1 E;obtain ⟨m,af,F⟩:=yq (x:=OC s st) I0 q (by omega) (by omega) y (O j hj) d g;have lo:=F.place.lo;have A:=F.id;have ak:(OC s st).q.aX=st.aX:=rfl;unfold iO at p1 E;rw[if_pos (show rR s (OC s st).st.aj j.Id=true from d),if_pos (show (jF s (OC s st).q j).2=true from g)] at p1 E;change (jF s (dE s st) j).1.bj=j.Id at A;change st.aX<=(jF s (dE s st) j).1.At at lo;by_cases ha:(jF s (dE s st) j).1.At > st.aX
    ·rw[if_pos (show (jF s (OC s st).q j).1.At > (OC s st).q.aX from ha)] at p1 E;obtain ⟨R,Y⟩:=LQ (a:=(jF s (dE s st) j).1) (l:=(fV s st r).P) E;rw[if_neg (by simp;omega),if_pos (by simpa using R),show (0:Int)=((0:Nat):Int) from rfl,bW R,aD,Y,if_pos (by simpa using A),aD,aY];simp
    ·rw[if_neg (show ¬(jF s (OC s st).q j).1.At > (OC s st).q.aX from ha)] at p1 E;obtain ⟨R,Y⟩:=LQ (a:=(jF s (dE s st) j).1) (l:=(fV s st r).S) p1;rw[if_pos (by simp;omega),if_pos (by simpa using R),show (0:Int)=((0:Nat):Int) from rfl,bW R,aD,Y,aY];simpa using A
 ·rw[Ue G q,aD]
end Go.Plain
end
